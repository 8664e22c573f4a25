/-
 The reference's NetLines: the loops over nodes and switches.
-/
import Derived.Test.YtgngdcpglnfkeaaDoorUJ
set_option linter.constructorNameAsVariable false
set_option linter.unusedSimpArgs false
set_option linter.unusedVariables false
namespace Go.Proofs.YtgngdcpglnfkeaaDoor
open Go.Am Go.Tx Ne
set_option maxRecDepth 100000
def Za3 (s:Txt):Txt:=[110,111,100,101,32]++s
def Zbe (x:Sw):Txt:=((bif x.2.2.2.1 then[98,114,101,97,107,101,114,32]else[115,119,105,116,99,104,32])++((((x.1++ [32])++x.2.1)++ [32])++x.2.2.1))++(bif x.2.2.2.2 then[32,111,112,101,110]else[32,99,108,111,115,101,100])
def zNo (l:List Txt) (i:Nat):TM:=[(1, .ptr 0 0 0),(3, .ptr 1 0 0),(19, .v (.l .s) l),(20,nt l.length),(21,nt i)]
set_option maxHeartbeats 16000000 in
theorem ZrX (netc:List SV) (out:List Txt) (l:List Txt) (hr:rchL netc=[]) (ho:out.length≤500) (hl:l.length≤100) (hf: ∀x∈l,x.length≤1000):
 LoopOK Tryd.prog Zaw 0 ⟨10,0,159⟩ (Zbt Tryd.f10 3) (zNo l 0) (hM netc out [])
 (fun e tm hp'=>e= .exit 0∧Ent 0 tm hp' [(1, .ptr 0 0 0),(3, .ptr 1 0 0)] (hM netc (out++l.map Za3) [])):=by
 refine ZaH Zao rfl (zNo l) (fun i=>hM netc (out++(l.take i).map Za3) []) (fun i=>i≤l.length) (fun i=>l.length-i) ?_ 0 (Nat.zero_le _) ?_
 case refine_2=>
  have e0:out++(l.take 0).map Za3=out:=by rw[List.take_zero,List.map_nil,List.append_nil]
  rw[e0];exact ZaW
 rintro i hi
 cases h1:decide ((i:Int)<(l.length:Int))with
 |false=>
  have e:i=l.length:=by have:=of_decide_eq_false h1;omega
  refine Zae ?_
  refine Zab ?_
  refine Zaf ?_
  refine brF h1 ?_
  refine⟨rfl, ?_⟩
  rw[e,List.take_length]
  exact Zai ⟨rfl,rfl,trivial⟩
 |true=>
  have hlt:i<l.length:=by have:=of_decide_eq_true h1;omega
  have gx:l[(i:Int).toNat]? =some l[i]:=by rw[Int.toNat_natCast];exact List.getElem?_eq_getElem hlt
  have hx:=hf _ (List.getElem_mem hlt)
  have hnext:out++(l.take (i+1)).map Za3=(out++(l.take i).map Za3)++ [Za3 l[i]]:=by
   rw[List.take_add_one,List.getElem?_eq_getElem hlt,List.map_append,List.append_assoc];rfl
  have hlen:(out++(l.take i).map Za3).length≤1000:=by rw[List.length_append,List.length_map,List.length_take];omega
  obtain⟨x,ex⟩: ∃x,l[i]=x:=⟨_,rfl⟩
  obtain⟨ac,ea⟩: ∃ac,out++(l.take i).map Za3=ac:=⟨_,rfl⟩
  rw[ex]at gx hnext hx
  rw[ea]at hlen hnext
  rw[ea]
  have zC:(ac.length+1)*16≤140737488355328:=by omega
  have fin: ∀ (X:List SM) (k:Nat) (tm:TM),k=X.length+4→ZrG (fun j=> [0,1,k].getD j 0) 3 tm (zNo l (i+1))→Ent 0 tm (hN netc ac X (Za3 x) k) (zNo l (i+1)) (hM netc (out++(l.take (i+1)).map Za3) []):=fun X k tm hk h=>by
   rw[hnext]
   exact ZdG hr hk h
  refine Zae ?_
  refine Zab ?_
  refine Zaf ?_
  refine brT h1 ?_
  refine Zae ?_
  refine Zbb rfl (fun _=>rfl) (Int.natCast_nonneg i) gx rfl rfl ?_
  iterate 2 refine Zab ?_
  refine Zaf ?_
  refine Zae ?_
  refine Zag rfl (fun _=>rfl) rfl rfl rfl ?_
  refine Zab ?_
  refine Zag rfl (fun _=>rfl) (by simp only[List.length_append,List.length_cons,List.length_nil];omega) rfl rfl ?_
  refine ZaR ?_
  refine Zac rfl (Ze9 rfl rfl rfl rfl rfl rfl rfl rfl rfl rfl (ZbV (a:=hM netc ac [])) rfl zC ?_)
  refine Zaa rfl rfl ?_
  refine Zac rfl (ZaB rfl rfl rfl rfl rfl rfl rfl rfl ?_)
  refine Zar rfl ?_
  refine Zaf ?_
  refine Zae ?_
  iterate 2 refine Zab ?_
  refine Zaf ?_
  refine⟨i+1,hlt,by show l.length-(i+1)<l.length-i;omega, ?_⟩
  exact fin [] 4 _ rfl ⟨rfl,ZaS (by show 0<3;omega),rfl,ZaS (by show 1<3;omega),rfl,Za4,rfl,Za4,congrArg (fun x=>some (SV.v (.i .i64) x)) (Za7 (by omega)),Za4,trivial⟩
def zSw (l:List Sw) (i:Nat):TM:=[(1, .ptr 0 0 0),(3, .ptr 1 0 0),(32, .v (.l Ze6) l),(33,nt l.length),(34,nt i)]
set_option maxHeartbeats 16000000 in
theorem Zsg (netc:List SV) (out:List Txt) (l:List Sw) (hr:rchL netc=[]) (ho:out.length≤500) (hl:l.length≤100) (hf: ∀x∈l,x.1.length≤1000∧x.2.1.length≤1000∧x.2.2.1.length≤1000):
 LoopOK Tryd.prog Zaw 0 ⟨10,0,159⟩ (Zbt Tryd.f10 8) (zSw l 0) (hM netc out [])
 (fun e tm hp'=>e= .exit 2∧Ent 0 tm hp' [(1, .ptr 0 0 0),(3, .ptr 1 0 0)] (hM netc (out++l.map Zbe) [])):=by
 refine ZaH Zao rfl (zSw l) (fun i=>hM netc (out++(l.take i).map Zbe) []) (fun i=>i≤l.length) (fun i=>l.length-i) ?_ 0 (Nat.zero_le _) ?_
 case refine_2=>
  have e0:out++(l.take 0).map Zbe=out:=by rw[List.take_zero,List.map_nil,List.append_nil]
  rw[e0];exact ZaW
 rintro i hi
 cases h1:decide ((i:Int)<(l.length:Int))with
 |false=>
  have e:i=l.length:=by have:=of_decide_eq_false h1;omega
  refine Zae ?_
  refine Zab ?_
  refine Zaf ?_
  refine brF h1 ?_
  refine⟨rfl, ?_⟩
  rw[e,List.take_length]
  exact Zai ⟨rfl,rfl,trivial⟩
 |true=>
  have hlt:i<l.length:=by have:=of_decide_eq_true h1;omega
  have gx:l[(i:Int).toNat]? =some l[i]:=by rw[Int.toNat_natCast];exact List.getElem?_eq_getElem hlt
  have hx:=hf _ (List.getElem_mem hlt)
  have hnext:out++(l.take (i+1)).map Zbe=(out++(l.take i).map Zbe)++ [Zbe l[i]]:=by
   rw[List.take_add_one,List.getElem?_eq_getElem hlt,List.map_append,List.append_assoc];rfl
  have hlen:(out++(l.take i).map Zbe).length≤1000:=by rw[List.length_append,List.length_map,List.length_take];omega
  obtain⟨x,ex⟩: ∃x,l[i]=x:=⟨_,rfl⟩
  obtain⟨ac,ea⟩: ∃ac,out++(l.take i).map Zbe=ac:=⟨_,rfl⟩
  rw[ex]at gx hnext hx
  rw[ea]at hlen hnext
  rw[ea]
  have zC:(ac.length+1)*16≤140737488355328:=by omega
  have fin: ∀ (X:List SM) (k:Nat) (tm:TM),k=X.length+4→ZrG (fun j=> [0,1,k].getD j 0) 3 tm (zSw l (i+1))→Ent 0 tm (hN netc ac X (Zbe x) k) (zSw l (i+1)) (hM netc (out++(l.take (i+1)).map Zbe) []):=fun X k tm hk h=>by
   rw[hnext]
   exact ZdG hr hk h
  refine Zae ?_
  refine Zab ?_
  refine Zaf ?_
  refine brT h1 ?_
  obtain⟨nm,a,b,br,op⟩:=x
  obtain⟨x1,x2,x3⟩:=hx
  have x1:nm.length≤1000:=x1
  have x2:a.length≤1000:=x2
  have x3:b.length≤1000:=x3
  cases br<;>cases op
  ·have hi':=hi
   refine Zae ?_
   refine Zbb rfl (fun _=>rfl) (Int.natCast_nonneg i) gx rfl rfl ?_
   refine Zab ?_
   refine ZaR ?_
   refine Zac rfl (ZaB rfl rfl rfl rfl rfl rfl rfl rfl ?_)
   refine Zar rfl ?_
   refine Zaf ?_
   refine Zae ?_
   refine Zab ?_
   refine Zag rfl (fun _=>rfl) rfl rfl rfl ?_
   refine Zag rfl (fun _=>rfl) (by simp only[List.length_append,List.length_cons,List.length_nil];omega) rfl rfl ?_
   refine Zab ?_
   refine Zag rfl (fun _=>rfl) rfl rfl rfl ?_
   refine Zag rfl (fun _=>rfl) (by simp only[List.length_append,List.length_cons,List.length_nil];omega) rfl rfl ?_
   refine Zag rfl (fun _=>rfl) (by simp only[List.length_append,List.length_cons,List.length_nil];omega) rfl rfl ?_
   refine Zab ?_
   refine Zag rfl (fun _=>rfl) rfl rfl rfl ?_
   refine Zag rfl (fun _=>rfl) (by simp only[List.length_append,List.length_cons,List.length_nil];omega) rfl rfl ?_
   refine Zab ?_
   refine Zaf ?_
   refine Zae ?_
   refine Zab ?_
   refine Zag rfl (fun _=>rfl) rfl rfl rfl ?_
   refine Zaf ?_
   refine brF rfl ?_
   refine Zae ?_
   refine Zab ?_
   refine Zag rfl (fun _=>rfl) (by simp only[List.length_append,List.length_cons,List.length_nil];omega) rfl rfl ?_
   refine Zab ?_
   refine Zaf ?_
   refine Zae ?_
   refine Zab ?_
   refine Zag rfl (fun _=>rfl) rfl rfl rfl ?_
   refine Zaf ?_
   refine brF rfl ?_
   refine Zae ?_
   refine Zab ?_
   refine Zag rfl (fun _=>rfl) (by simp only[List.length_append,List.length_cons,List.length_nil];omega) rfl rfl ?_
   refine Zab ?_
   refine Zaf ?_
   refine Zae ?_
   refine Zag rfl (fun _=>rfl) rfl rfl rfl ?_
   refine Zab ?_
   refine ZaR ?_
   refine Zac rfl (Ze9 rfl rfl rfl rfl rfl rfl rfl rfl rfl rfl (ZbV (a:=hM netc ac [.cell [.v .s nm, .v .s a, .v .s b, .v .b false, .v .b false] true])) rfl zC ?_)
   refine Zaa rfl rfl ?_
   refine Zac rfl (ZaB rfl rfl rfl rfl rfl rfl rfl rfl ?_)
   refine Zar rfl ?_
   refine Zaf ?_
   refine Zae ?_
   iterate 2 refine Zab ?_
   refine Zaf ?_
   refine⟨i+1,hlt,by show l.length-(i+1)<l.length-i;omega, ?_⟩
   exact fin [.cell [.v .s nm, .v .s a, .v .s b, .v .b false, .v .b false] true] 5 _ rfl ⟨rfl,ZaS (by show 0<3;omega),rfl,ZaS (by show 1<3;omega),rfl,Za4,rfl,Za4,congrArg (fun x=>some (SV.v (.i .i64) x)) (Za7 (by omega)),Za4,trivial⟩
  ·have hi':=hi
   refine Zae ?_
   refine Zbb rfl (fun _=>rfl) (Int.natCast_nonneg i) gx rfl rfl ?_
   refine Zab ?_
   refine ZaR ?_
   refine Zac rfl (ZaB rfl rfl rfl rfl rfl rfl rfl rfl ?_)
   refine Zar rfl ?_
   refine Zaf ?_
   refine Zae ?_
   refine Zab ?_
   refine Zag rfl (fun _=>rfl) rfl rfl rfl ?_
   refine Zag rfl (fun _=>rfl) (by simp only[List.length_append,List.length_cons,List.length_nil];omega) rfl rfl ?_
   refine Zab ?_
   refine Zag rfl (fun _=>rfl) rfl rfl rfl ?_
   refine Zag rfl (fun _=>rfl) (by simp only[List.length_append,List.length_cons,List.length_nil];omega) rfl rfl ?_
   refine Zag rfl (fun _=>rfl) (by simp only[List.length_append,List.length_cons,List.length_nil];omega) rfl rfl ?_
   refine Zab ?_
   refine Zag rfl (fun _=>rfl) rfl rfl rfl ?_
   refine Zag rfl (fun _=>rfl) (by simp only[List.length_append,List.length_cons,List.length_nil];omega) rfl rfl ?_
   refine Zab ?_
   refine Zaf ?_
   refine Zae ?_
   refine Zab ?_
   refine Zag rfl (fun _=>rfl) rfl rfl rfl ?_
   refine Zaf ?_
   refine brF rfl ?_
   refine Zae ?_
   refine Zab ?_
   refine Zag rfl (fun _=>rfl) (by simp only[List.length_append,List.length_cons,List.length_nil];omega) rfl rfl ?_
   refine Zab ?_
   refine Zaf ?_
   refine Zae ?_
   refine Zab ?_
   refine Zag rfl (fun _=>rfl) rfl rfl rfl ?_
   refine Zaf ?_
   refine brT rfl ?_
   refine Zae ?_
   refine Zab ?_
   refine Zag rfl (fun _=>rfl) (by simp only[List.length_append,List.length_cons,List.length_nil];omega) rfl rfl ?_
   refine Zab ?_
   refine Zaf ?_
   refine Zae ?_
   refine Zag rfl (fun _=>rfl) rfl rfl rfl ?_
   refine Zab ?_
   refine ZaR ?_
   refine Zac rfl (Ze9 rfl rfl rfl rfl rfl rfl rfl rfl rfl rfl (ZbV (a:=hM netc ac [.cell [.v .s nm, .v .s a, .v .s b, .v .b false, .v .b true] true])) rfl zC ?_)
   refine Zaa rfl rfl ?_
   refine Zac rfl (ZaB rfl rfl rfl rfl rfl rfl rfl rfl ?_)
   refine Zar rfl ?_
   refine Zaf ?_
   refine Zae ?_
   iterate 2 refine Zab ?_
   refine Zaf ?_
   refine⟨i+1,hlt,by show l.length-(i+1)<l.length-i;omega, ?_⟩
   exact fin [.cell [.v .s nm, .v .s a, .v .s b, .v .b false, .v .b true] true] 5 _ rfl ⟨rfl,ZaS (by show 0<3;omega),rfl,ZaS (by show 1<3;omega),rfl,Za4,rfl,Za4,congrArg (fun x=>some (SV.v (.i .i64) x)) (Za7 (by omega)),Za4,trivial⟩
  ·have hi':=hi
   refine Zae ?_
   refine Zbb rfl (fun _=>rfl) (Int.natCast_nonneg i) gx rfl rfl ?_
   refine Zab ?_
   refine ZaR ?_
   refine Zac rfl (ZaB rfl rfl rfl rfl rfl rfl rfl rfl ?_)
   refine Zar rfl ?_
   refine Zaf ?_
   refine Zae ?_
   refine Zab ?_
   refine Zag rfl (fun _=>rfl) rfl rfl rfl ?_
   refine Zag rfl (fun _=>rfl) (by simp only[List.length_append,List.length_cons,List.length_nil];omega) rfl rfl ?_
   refine Zab ?_
   refine Zag rfl (fun _=>rfl) rfl rfl rfl ?_
   refine Zag rfl (fun _=>rfl) (by simp only[List.length_append,List.length_cons,List.length_nil];omega) rfl rfl ?_
   refine Zag rfl (fun _=>rfl) (by simp only[List.length_append,List.length_cons,List.length_nil];omega) rfl rfl ?_
   refine Zab ?_
   refine Zag rfl (fun _=>rfl) rfl rfl rfl ?_
   refine Zag rfl (fun _=>rfl) (by simp only[List.length_append,List.length_cons,List.length_nil];omega) rfl rfl ?_
   refine Zab ?_
   refine Zaf ?_
   refine Zae ?_
   refine Zab ?_
   refine Zag rfl (fun _=>rfl) rfl rfl rfl ?_
   refine Zaf ?_
   refine brT rfl ?_
   refine Zae ?_
   refine Zab ?_
   refine Zag rfl (fun _=>rfl) (by simp only[List.length_append,List.length_cons,List.length_nil];omega) rfl rfl ?_
   refine Zab ?_
   refine Zaf ?_
   refine Zae ?_
   refine Zab ?_
   refine Zag rfl (fun _=>rfl) rfl rfl rfl ?_
   refine Zaf ?_
   refine brF rfl ?_
   refine Zae ?_
   refine Zab ?_
   refine Zag rfl (fun _=>rfl) (by simp only[List.length_append,List.length_cons,List.length_nil];omega) rfl rfl ?_
   refine Zab ?_
   refine Zaf ?_
   refine Zae ?_
   refine Zag rfl (fun _=>rfl) rfl rfl rfl ?_
   refine Zab ?_
   refine ZaR ?_
   refine Zac rfl (Ze9 rfl rfl rfl rfl rfl rfl rfl rfl rfl rfl (ZbV (a:=hM netc ac [.cell [.v .s nm, .v .s a, .v .s b, .v .b true, .v .b false] true])) rfl zC ?_)
   refine Zaa rfl rfl ?_
   refine Zac rfl (ZaB rfl rfl rfl rfl rfl rfl rfl rfl ?_)
   refine Zar rfl ?_
   refine Zaf ?_
   refine Zae ?_
   iterate 2 refine Zab ?_
   refine Zaf ?_
   refine⟨i+1,hlt,by show l.length-(i+1)<l.length-i;omega, ?_⟩
   exact fin [.cell [.v .s nm, .v .s a, .v .s b, .v .b true, .v .b false] true] 5 _ rfl ⟨rfl,ZaS (by show 0<3;omega),rfl,ZaS (by show 1<3;omega),rfl,Za4,rfl,Za4,congrArg (fun x=>some (SV.v (.i .i64) x)) (Za7 (by omega)),Za4,trivial⟩
  ·have hi':=hi
   refine Zae ?_
   refine Zbb rfl (fun _=>rfl) (Int.natCast_nonneg i) gx rfl rfl ?_
   refine Zab ?_
   refine ZaR ?_
   refine Zac rfl (ZaB rfl rfl rfl rfl rfl rfl rfl rfl ?_)
   refine Zar rfl ?_
   refine Zaf ?_
   refine Zae ?_
   refine Zab ?_
   refine Zag rfl (fun _=>rfl) rfl rfl rfl ?_
   refine Zag rfl (fun _=>rfl) (by simp only[List.length_append,List.length_cons,List.length_nil];omega) rfl rfl ?_
   refine Zab ?_
   refine Zag rfl (fun _=>rfl) rfl rfl rfl ?_
   refine Zag rfl (fun _=>rfl) (by simp only[List.length_append,List.length_cons,List.length_nil];omega) rfl rfl ?_
   refine Zag rfl (fun _=>rfl) (by simp only[List.length_append,List.length_cons,List.length_nil];omega) rfl rfl ?_
   refine Zab ?_
   refine Zag rfl (fun _=>rfl) rfl rfl rfl ?_
   refine Zag rfl (fun _=>rfl) (by simp only[List.length_append,List.length_cons,List.length_nil];omega) rfl rfl ?_
   refine Zab ?_
   refine Zaf ?_
   refine Zae ?_
   refine Zab ?_
   refine Zag rfl (fun _=>rfl) rfl rfl rfl ?_
   refine Zaf ?_
   refine brT rfl ?_
   refine Zae ?_
   refine Zab ?_
   refine Zag rfl (fun _=>rfl) (by simp only[List.length_append,List.length_cons,List.length_nil];omega) rfl rfl ?_
   refine Zab ?_
   refine Zaf ?_
   refine Zae ?_
   refine Zab ?_
   refine Zag rfl (fun _=>rfl) rfl rfl rfl ?_
   refine Zaf ?_
   refine brT rfl ?_
   refine Zae ?_
   refine Zab ?_
   refine Zag rfl (fun _=>rfl) (by simp only[List.length_append,List.length_cons,List.length_nil];omega) rfl rfl ?_
   refine Zab ?_
   refine Zaf ?_
   refine Zae ?_
   refine Zag rfl (fun _=>rfl) rfl rfl rfl ?_
   refine Zab ?_
   refine ZaR ?_
   refine Zac rfl (Ze9 rfl rfl rfl rfl rfl rfl rfl rfl rfl rfl (ZbV (a:=hM netc ac [.cell [.v .s nm, .v .s a, .v .s b, .v .b true, .v .b true] true])) rfl zC ?_)
   refine Zaa rfl rfl ?_
   refine Zac rfl (ZaB rfl rfl rfl rfl rfl rfl rfl rfl ?_)
   refine Zar rfl ?_
   refine Zaf ?_
   refine Zae ?_
   iterate 2 refine Zab ?_
   refine Zaf ?_
   refine⟨i+1,hlt,by show l.length-(i+1)<l.length-i;omega, ?_⟩
   exact fin [.cell [.v .s nm, .v .s a, .v .s b, .v .b true, .v .b true] true] 5 _ rfl ⟨rfl,ZaS (by show 0<3;omega),rfl,ZaS (by show 1<3;omega),rfl,Za4,rfl,Za4,congrArg (fun x=>some (SV.v (.i .i64) x)) (Za7 (by omega)),Za4,trivial⟩
end Go.Proofs.YtgngdcpglnfkeaaDoor

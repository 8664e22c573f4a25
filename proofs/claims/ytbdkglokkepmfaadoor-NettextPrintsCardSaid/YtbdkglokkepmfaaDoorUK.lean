/-
 The reference's NetLines: the loops over nodes and switches.
-/
import Derived.Test.YtbdkglokkepmfaaDoorUJ
set_option linter.constructorNameAsVariable false
set_option linter.unusedSimpArgs false
set_option linter.unusedVariables false
namespace Go.Proofs.YtbdkglokkepmfaaDoor
open Go.Am Go.Tx Ne
set_option maxRecDepth 100000
def ZaY (s:Txt):Txt:=[110,111,100,101,32]++s
def ZaZ (x:Sw):Txt:=((bif x.2.2.2.1 then[98,114,101,97,107,101,114,32]else[115,119,105,116,99,104,32])++((((x.1++ [32])++x.2.1)++ [32])++x.2.2.1))++(bif x.2.2.2.2 then[32,111,112,101,110]else[32,99,108,111,115,101,100])
def zNo (l:List Txt) (i:Nat):TM:=[(1, .ptr 0 0 0),(3, .ptr 1 0 0),(19, .v (.l .s) l),(20,nt l.length),(21,nt i)]
set_option maxHeartbeats 16000000 in
theorem Zql (netc:List SV) (out:List Txt) (l:List Txt) (hr:rchL netc=[]) (ho:out.length≤500) (hl:l.length≤100) (hf: ∀x∈l,x.length≤1000):
 LoopOK Tryd.prog Zax 0 ⟨8,0,159⟩ (ZaX Tryd.f8 3) (zNo l 0) (hM netc out [])
 (fun e tm hp'=>e= .exit 0∧Ent 0 tm hp' [(1, .ptr 0 0 0),(3, .ptr 1 0 0)] (hM netc (out++l.map ZaY) [])):=by
 refine ZaB Zaq rfl (zNo l) (fun i=>hM netc (out++(l.take i).map ZaY) []) (fun i=>i≤l.length) (fun i=>l.length-i) ?_ 0 (Nat.zero_le _) ?_
 case refine_2=>
  have e0:out++(l.take 0).map ZaY=out:=by rw[List.take_zero,List.map_nil,List.append_nil]
  rw[e0];exact ZaC
 rintro i hi
 cases h1:decide ((i:Int)<(l.length:Int))with
 |false=>
  have e:i=l.length:=by have:=of_decide_eq_false h1;omega
  refine Zae ?_
  refine Zaa ?_
  refine Zad ?_
  refine brF h1 ?_
  refine⟨rfl, ?_⟩
  rw[e,List.take_length]
  exact Zah ⟨rfl,rfl,trivial⟩
 |true=>
  have hlt:i<l.length:=by have:=of_decide_eq_true h1;omega
  have gx:l[(i:Int).toNat]? =some l[i]:=by rw[Int.toNat_natCast];exact List.getElem?_eq_getElem hlt
  have hx:=hf _ (List.getElem_mem hlt)
  have hnext:out++(l.take (i+1)).map ZaY=(out++(l.take i).map ZaY)++ [ZaY l[i]]:=by
   rw[List.take_add_one,List.getElem?_eq_getElem hlt,List.map_append,List.append_assoc];rfl
  have hlen:(out++(l.take i).map ZaY).length≤1000:=by rw[List.length_append,List.length_map,List.length_take];omega
  obtain⟨x,ex⟩: ∃x,l[i]=x:=⟨_,rfl⟩
  obtain⟨ac,ea⟩: ∃ac,out++(l.take i).map ZaY=ac:=⟨_,rfl⟩
  rw[ex]at gx hnext hx
  rw[ea]at hlen hnext
  rw[ea]
  have zC:(ac.length+1)*16≤140737488355328:=by omega
  have fin: ∀ (X:List SM) (k:Nat) (tm:TM),k=X.length+4→ZpL (fun j=> [0,1,k].getD j 0) 3 tm (zNo l (i+1))→Ent 0 tm (hN netc ac X (ZaY x) k) (zNo l (i+1)) (hM netc (out++(l.take (i+1)).map ZaY) []):=fun X k tm hk h=>by
   rw[hnext]
   exact Zdp hr hk h
  refine Zae ?_
  refine Zaa ?_
  refine Zad ?_
  refine brT h1 ?_
  refine Zae ?_
  refine Za5 rfl (fun _=>rfl) (Int.natCast_nonneg i) gx rfl rfl ?_
  iterate 2 refine Zaa ?_
  refine Zad ?_
  refine Zae ?_
  refine Zag rfl (fun _=>rfl) rfl rfl rfl ?_
  refine Zaa ?_
  refine Zag rfl (fun _=>rfl) (by simp only[List.length_append,List.length_cons,List.length_nil];omega) rfl rfl ?_
  refine ZaQ ?_
  refine Zaf rfl (Za8 rfl rfl rfl rfl rfl rfl rfl rfl rfl rfl (Za1 (a:=hM netc ac [])) rfl zC ?_)
  refine Zab rfl rfl ?_
  refine Zaf rfl (Zar rfl rfl rfl rfl rfl rfl rfl rfl ?_)
  refine Zaw rfl ?_
  refine Zad ?_
  refine Zae ?_
  iterate 2 refine Zaa ?_
  refine Zad ?_
  refine⟨i+1,hlt,by show l.length-(i+1)<l.length-i;omega, ?_⟩
  exact fin [] 4 _ rfl ⟨rfl,ZaD (by show 0<3;omega),rfl,ZaD (by show 1<3;omega),rfl,ZaO,rfl,ZaO,congrArg (fun x=>some (SV.v (.i .i64) x)) (ZaW (by omega)),ZaO,trivial⟩
def zSw (l:List Sw) (i:Nat):TM:=[(1, .ptr 0 0 0),(3, .ptr 1 0 0),(32, .v (.l ZqV) l),(33,nt l.length),(34,nt i)]
set_option maxHeartbeats 16000000 in
theorem ZqH (netc:List SV) (out:List Txt) (l:List Sw) (hr:rchL netc=[]) (ho:out.length≤500) (hl:l.length≤100) (hf: ∀x∈l,x.1.length≤1000∧x.2.1.length≤1000∧x.2.2.1.length≤1000):
 LoopOK Tryd.prog Zax 0 ⟨8,0,159⟩ (ZaX Tryd.f8 8) (zSw l 0) (hM netc out [])
 (fun e tm hp'=>e= .exit 2∧Ent 0 tm hp' [(1, .ptr 0 0 0),(3, .ptr 1 0 0)] (hM netc (out++l.map ZaZ) [])):=by
 refine ZaB Zaq rfl (zSw l) (fun i=>hM netc (out++(l.take i).map ZaZ) []) (fun i=>i≤l.length) (fun i=>l.length-i) ?_ 0 (Nat.zero_le _) ?_
 case refine_2=>
  have e0:out++(l.take 0).map ZaZ=out:=by rw[List.take_zero,List.map_nil,List.append_nil]
  rw[e0];exact ZaC
 rintro i hi
 cases h1:decide ((i:Int)<(l.length:Int))with
 |false=>
  have e:i=l.length:=by have:=of_decide_eq_false h1;omega
  refine Zae ?_
  refine Zaa ?_
  refine Zad ?_
  refine brF h1 ?_
  refine⟨rfl, ?_⟩
  rw[e,List.take_length]
  exact Zah ⟨rfl,rfl,trivial⟩
 |true=>
  have hlt:i<l.length:=by have:=of_decide_eq_true h1;omega
  have gx:l[(i:Int).toNat]? =some l[i]:=by rw[Int.toNat_natCast];exact List.getElem?_eq_getElem hlt
  have hx:=hf _ (List.getElem_mem hlt)
  have hnext:out++(l.take (i+1)).map ZaZ=(out++(l.take i).map ZaZ)++ [ZaZ l[i]]:=by
   rw[List.take_add_one,List.getElem?_eq_getElem hlt,List.map_append,List.append_assoc];rfl
  have hlen:(out++(l.take i).map ZaZ).length≤1000:=by rw[List.length_append,List.length_map,List.length_take];omega
  obtain⟨x,ex⟩: ∃x,l[i]=x:=⟨_,rfl⟩
  obtain⟨ac,ea⟩: ∃ac,out++(l.take i).map ZaZ=ac:=⟨_,rfl⟩
  rw[ex]at gx hnext hx
  rw[ea]at hlen hnext
  rw[ea]
  have zC:(ac.length+1)*16≤140737488355328:=by omega
  have fin: ∀ (X:List SM) (k:Nat) (tm:TM),k=X.length+4→ZpL (fun j=> [0,1,k].getD j 0) 3 tm (zSw l (i+1))→Ent 0 tm (hN netc ac X (ZaZ x) k) (zSw l (i+1)) (hM netc (out++(l.take (i+1)).map ZaZ) []):=fun X k tm hk h=>by
   rw[hnext]
   exact Zdp hr hk h
  refine Zae ?_
  refine Zaa ?_
  refine Zad ?_
  refine brT h1 ?_
  obtain⟨nm,a,b,br,op⟩:=x
  obtain⟨x1,x2,x3⟩:=hx
  have x1:nm.length≤1000:=x1
  have x2:a.length≤1000:=x2
  have x3:b.length≤1000:=x3
  cases br<;>cases op
  ·have hi':=hi
   refine Zae ?_
   refine Za5 rfl (fun _=>rfl) (Int.natCast_nonneg i) gx rfl rfl ?_
   refine Zaa ?_
   refine ZaQ ?_
   refine Zaf rfl (Zar rfl rfl rfl rfl rfl rfl rfl rfl ?_)
   refine Zaw rfl ?_
   refine Zad ?_
   refine Zae ?_
   refine Zaa ?_
   refine Zag rfl (fun _=>rfl) rfl rfl rfl ?_
   refine Zag rfl (fun _=>rfl) (by simp only[List.length_append,List.length_cons,List.length_nil];omega) rfl rfl ?_
   refine Zaa ?_
   refine Zag rfl (fun _=>rfl) rfl rfl rfl ?_
   refine Zag rfl (fun _=>rfl) (by simp only[List.length_append,List.length_cons,List.length_nil];omega) rfl rfl ?_
   refine Zag rfl (fun _=>rfl) (by simp only[List.length_append,List.length_cons,List.length_nil];omega) rfl rfl ?_
   refine Zaa ?_
   refine Zag rfl (fun _=>rfl) rfl rfl rfl ?_
   refine Zag rfl (fun _=>rfl) (by simp only[List.length_append,List.length_cons,List.length_nil];omega) rfl rfl ?_
   refine Zaa ?_
   refine Zad ?_
   refine Zae ?_
   refine Zaa ?_
   refine Zag rfl (fun _=>rfl) rfl rfl rfl ?_
   refine Zad ?_
   refine brF rfl ?_
   refine Zae ?_
   refine Zaa ?_
   refine Zag rfl (fun _=>rfl) (by simp only[List.length_append,List.length_cons,List.length_nil];omega) rfl rfl ?_
   refine Zaa ?_
   refine Zad ?_
   refine Zae ?_
   refine Zaa ?_
   refine Zag rfl (fun _=>rfl) rfl rfl rfl ?_
   refine Zad ?_
   refine brF rfl ?_
   refine Zae ?_
   refine Zaa ?_
   refine Zag rfl (fun _=>rfl) (by simp only[List.length_append,List.length_cons,List.length_nil];omega) rfl rfl ?_
   refine Zaa ?_
   refine Zad ?_
   refine Zae ?_
   refine Zag rfl (fun _=>rfl) rfl rfl rfl ?_
   refine Zaa ?_
   refine ZaQ ?_
   refine Zaf rfl (Za8 rfl rfl rfl rfl rfl rfl rfl rfl rfl rfl (Za1 (a:=hM netc ac [.cell [.v .s nm, .v .s a, .v .s b, .v .b false, .v .b false] true])) rfl zC ?_)
   refine Zab rfl rfl ?_
   refine Zaf rfl (Zar rfl rfl rfl rfl rfl rfl rfl rfl ?_)
   refine Zaw rfl ?_
   refine Zad ?_
   refine Zae ?_
   iterate 2 refine Zaa ?_
   refine Zad ?_
   refine⟨i+1,hlt,by show l.length-(i+1)<l.length-i;omega, ?_⟩
   exact fin [.cell [.v .s nm, .v .s a, .v .s b, .v .b false, .v .b false] true] 5 _ rfl ⟨rfl,ZaD (by show 0<3;omega),rfl,ZaD (by show 1<3;omega),rfl,ZaO,rfl,ZaO,congrArg (fun x=>some (SV.v (.i .i64) x)) (ZaW (by omega)),ZaO,trivial⟩
  ·have hi':=hi
   refine Zae ?_
   refine Za5 rfl (fun _=>rfl) (Int.natCast_nonneg i) gx rfl rfl ?_
   refine Zaa ?_
   refine ZaQ ?_
   refine Zaf rfl (Zar rfl rfl rfl rfl rfl rfl rfl rfl ?_)
   refine Zaw rfl ?_
   refine Zad ?_
   refine Zae ?_
   refine Zaa ?_
   refine Zag rfl (fun _=>rfl) rfl rfl rfl ?_
   refine Zag rfl (fun _=>rfl) (by simp only[List.length_append,List.length_cons,List.length_nil];omega) rfl rfl ?_
   refine Zaa ?_
   refine Zag rfl (fun _=>rfl) rfl rfl rfl ?_
   refine Zag rfl (fun _=>rfl) (by simp only[List.length_append,List.length_cons,List.length_nil];omega) rfl rfl ?_
   refine Zag rfl (fun _=>rfl) (by simp only[List.length_append,List.length_cons,List.length_nil];omega) rfl rfl ?_
   refine Zaa ?_
   refine Zag rfl (fun _=>rfl) rfl rfl rfl ?_
   refine Zag rfl (fun _=>rfl) (by simp only[List.length_append,List.length_cons,List.length_nil];omega) rfl rfl ?_
   refine Zaa ?_
   refine Zad ?_
   refine Zae ?_
   refine Zaa ?_
   refine Zag rfl (fun _=>rfl) rfl rfl rfl ?_
   refine Zad ?_
   refine brF rfl ?_
   refine Zae ?_
   refine Zaa ?_
   refine Zag rfl (fun _=>rfl) (by simp only[List.length_append,List.length_cons,List.length_nil];omega) rfl rfl ?_
   refine Zaa ?_
   refine Zad ?_
   refine Zae ?_
   refine Zaa ?_
   refine Zag rfl (fun _=>rfl) rfl rfl rfl ?_
   refine Zad ?_
   refine brT rfl ?_
   refine Zae ?_
   refine Zaa ?_
   refine Zag rfl (fun _=>rfl) (by simp only[List.length_append,List.length_cons,List.length_nil];omega) rfl rfl ?_
   refine Zaa ?_
   refine Zad ?_
   refine Zae ?_
   refine Zag rfl (fun _=>rfl) rfl rfl rfl ?_
   refine Zaa ?_
   refine ZaQ ?_
   refine Zaf rfl (Za8 rfl rfl rfl rfl rfl rfl rfl rfl rfl rfl (Za1 (a:=hM netc ac [.cell [.v .s nm, .v .s a, .v .s b, .v .b false, .v .b true] true])) rfl zC ?_)
   refine Zab rfl rfl ?_
   refine Zaf rfl (Zar rfl rfl rfl rfl rfl rfl rfl rfl ?_)
   refine Zaw rfl ?_
   refine Zad ?_
   refine Zae ?_
   iterate 2 refine Zaa ?_
   refine Zad ?_
   refine⟨i+1,hlt,by show l.length-(i+1)<l.length-i;omega, ?_⟩
   exact fin [.cell [.v .s nm, .v .s a, .v .s b, .v .b false, .v .b true] true] 5 _ rfl ⟨rfl,ZaD (by show 0<3;omega),rfl,ZaD (by show 1<3;omega),rfl,ZaO,rfl,ZaO,congrArg (fun x=>some (SV.v (.i .i64) x)) (ZaW (by omega)),ZaO,trivial⟩
  ·have hi':=hi
   refine Zae ?_
   refine Za5 rfl (fun _=>rfl) (Int.natCast_nonneg i) gx rfl rfl ?_
   refine Zaa ?_
   refine ZaQ ?_
   refine Zaf rfl (Zar rfl rfl rfl rfl rfl rfl rfl rfl ?_)
   refine Zaw rfl ?_
   refine Zad ?_
   refine Zae ?_
   refine Zaa ?_
   refine Zag rfl (fun _=>rfl) rfl rfl rfl ?_
   refine Zag rfl (fun _=>rfl) (by simp only[List.length_append,List.length_cons,List.length_nil];omega) rfl rfl ?_
   refine Zaa ?_
   refine Zag rfl (fun _=>rfl) rfl rfl rfl ?_
   refine Zag rfl (fun _=>rfl) (by simp only[List.length_append,List.length_cons,List.length_nil];omega) rfl rfl ?_
   refine Zag rfl (fun _=>rfl) (by simp only[List.length_append,List.length_cons,List.length_nil];omega) rfl rfl ?_
   refine Zaa ?_
   refine Zag rfl (fun _=>rfl) rfl rfl rfl ?_
   refine Zag rfl (fun _=>rfl) (by simp only[List.length_append,List.length_cons,List.length_nil];omega) rfl rfl ?_
   refine Zaa ?_
   refine Zad ?_
   refine Zae ?_
   refine Zaa ?_
   refine Zag rfl (fun _=>rfl) rfl rfl rfl ?_
   refine Zad ?_
   refine brT rfl ?_
   refine Zae ?_
   refine Zaa ?_
   refine Zag rfl (fun _=>rfl) (by simp only[List.length_append,List.length_cons,List.length_nil];omega) rfl rfl ?_
   refine Zaa ?_
   refine Zad ?_
   refine Zae ?_
   refine Zaa ?_
   refine Zag rfl (fun _=>rfl) rfl rfl rfl ?_
   refine Zad ?_
   refine brF rfl ?_
   refine Zae ?_
   refine Zaa ?_
   refine Zag rfl (fun _=>rfl) (by simp only[List.length_append,List.length_cons,List.length_nil];omega) rfl rfl ?_
   refine Zaa ?_
   refine Zad ?_
   refine Zae ?_
   refine Zag rfl (fun _=>rfl) rfl rfl rfl ?_
   refine Zaa ?_
   refine ZaQ ?_
   refine Zaf rfl (Za8 rfl rfl rfl rfl rfl rfl rfl rfl rfl rfl (Za1 (a:=hM netc ac [.cell [.v .s nm, .v .s a, .v .s b, .v .b true, .v .b false] true])) rfl zC ?_)
   refine Zab rfl rfl ?_
   refine Zaf rfl (Zar rfl rfl rfl rfl rfl rfl rfl rfl ?_)
   refine Zaw rfl ?_
   refine Zad ?_
   refine Zae ?_
   iterate 2 refine Zaa ?_
   refine Zad ?_
   refine⟨i+1,hlt,by show l.length-(i+1)<l.length-i;omega, ?_⟩
   exact fin [.cell [.v .s nm, .v .s a, .v .s b, .v .b true, .v .b false] true] 5 _ rfl ⟨rfl,ZaD (by show 0<3;omega),rfl,ZaD (by show 1<3;omega),rfl,ZaO,rfl,ZaO,congrArg (fun x=>some (SV.v (.i .i64) x)) (ZaW (by omega)),ZaO,trivial⟩
  ·have hi':=hi
   refine Zae ?_
   refine Za5 rfl (fun _=>rfl) (Int.natCast_nonneg i) gx rfl rfl ?_
   refine Zaa ?_
   refine ZaQ ?_
   refine Zaf rfl (Zar rfl rfl rfl rfl rfl rfl rfl rfl ?_)
   refine Zaw rfl ?_
   refine Zad ?_
   refine Zae ?_
   refine Zaa ?_
   refine Zag rfl (fun _=>rfl) rfl rfl rfl ?_
   refine Zag rfl (fun _=>rfl) (by simp only[List.length_append,List.length_cons,List.length_nil];omega) rfl rfl ?_
   refine Zaa ?_
   refine Zag rfl (fun _=>rfl) rfl rfl rfl ?_
   refine Zag rfl (fun _=>rfl) (by simp only[List.length_append,List.length_cons,List.length_nil];omega) rfl rfl ?_
   refine Zag rfl (fun _=>rfl) (by simp only[List.length_append,List.length_cons,List.length_nil];omega) rfl rfl ?_
   refine Zaa ?_
   refine Zag rfl (fun _=>rfl) rfl rfl rfl ?_
   refine Zag rfl (fun _=>rfl) (by simp only[List.length_append,List.length_cons,List.length_nil];omega) rfl rfl ?_
   refine Zaa ?_
   refine Zad ?_
   refine Zae ?_
   refine Zaa ?_
   refine Zag rfl (fun _=>rfl) rfl rfl rfl ?_
   refine Zad ?_
   refine brT rfl ?_
   refine Zae ?_
   refine Zaa ?_
   refine Zag rfl (fun _=>rfl) (by simp only[List.length_append,List.length_cons,List.length_nil];omega) rfl rfl ?_
   refine Zaa ?_
   refine Zad ?_
   refine Zae ?_
   refine Zaa ?_
   refine Zag rfl (fun _=>rfl) rfl rfl rfl ?_
   refine Zad ?_
   refine brT rfl ?_
   refine Zae ?_
   refine Zaa ?_
   refine Zag rfl (fun _=>rfl) (by simp only[List.length_append,List.length_cons,List.length_nil];omega) rfl rfl ?_
   refine Zaa ?_
   refine Zad ?_
   refine Zae ?_
   refine Zag rfl (fun _=>rfl) rfl rfl rfl ?_
   refine Zaa ?_
   refine ZaQ ?_
   refine Zaf rfl (Za8 rfl rfl rfl rfl rfl rfl rfl rfl rfl rfl (Za1 (a:=hM netc ac [.cell [.v .s nm, .v .s a, .v .s b, .v .b true, .v .b true] true])) rfl zC ?_)
   refine Zab rfl rfl ?_
   refine Zaf rfl (Zar rfl rfl rfl rfl rfl rfl rfl rfl ?_)
   refine Zaw rfl ?_
   refine Zad ?_
   refine Zae ?_
   iterate 2 refine Zaa ?_
   refine Zad ?_
   refine⟨i+1,hlt,by show l.length-(i+1)<l.length-i;omega, ?_⟩
   exact fin [.cell [.v .s nm, .v .s a, .v .s b, .v .b true, .v .b true] true] 5 _ rfl ⟨rfl,ZaD (by show 0<3;omega),rfl,ZaD (by show 1<3;omega),rfl,ZaO,rfl,ZaO,congrArg (fun x=>some (SV.v (.i .i64) x)) (ZaW (by omega)),ZaO,trivial⟩
end Go.Proofs.YtbdkglokkepmfaaDoor

/-
 The reference's NetLines: the loops that call its closure. (Printed by tools/genlines.py.)
-/
import Derived.Test.YtgngdcpglnfkeaaDoorUI
set_option linter.constructorNameAsVariable false
set_option linter.unusedSimpArgs false
set_option linter.unusedVariables false
namespace Go.Proofs.YtgngdcpglnfkeaaDoor
open Go.Am Go.Tx Ne
set_option maxRecDepth 100000
abbrev Zrl:SV:= .func 34 [] [.ptr 1 0 0]
theorem Zke: ∀id∈Zcz Zrl,id<3:=fun id hid=>by
 have h:id=1:=by simpa[Zcz,rchL]using hid
 omega
def Zss (ws:List Txt) (vs:List Int):Prop:=(∀w∈ws,w.length≤1000)∧ ∀v∈vs,-1000000≤v∧v≤1000000
def ZgK (x:Br):List Txt:=[[98,114,97,110,99,104],x.1,x.2.1,x.2.2.1]
def Zfp (x:Br):List Int:=[x.2.2.2.1,x.2.2.2.2.1,x.2.2.2.2.2.1,x.2.2.2.2.2.2.1,x.2.2.2.2.2.2.2.1,x.2.2.2.2.2.2.2.2]
def Zbl (x:Br):Txt:=ZjN (ZgK x) (Zfp x)
def zBr (l:List Br) (i:Nat):TM:=[(1, .ptr 0 0 0),(3, .ptr 1 0 0),(9,Zrl),(67, .v (.l Zfu) l),(68,nt l.length),(69,nt i)]
set_option maxHeartbeats 16000000 in
theorem Zse (netc:List SV) (out:List Txt) (l:List Br) (hr:rchL netc=[]) (ho:out.length≤500) (hl:l.length≤100) (hf: ∀x∈l,Zss (ZgK x) (Zfp x)):
 LoopOK Tryd.prog Zaw 0 ⟨10,0,159⟩ (Zbt Tryd.f10 21) (zBr l 0) (hM netc out [])
 (fun e tm hp'=>e= .exit 4∧Ent 0 tm hp' [(1, .ptr 0 0 0),(3, .ptr 1 0 0),(9,Zrl)] (hM netc (out++l.map Zbl) [])):=by
 refine ZaH Zao rfl (zBr l) (fun i=>hM netc (out++(l.take i).map Zbl) []) (fun i=>i≤l.length) (fun i=>l.length-i) ?_ 0 (Nat.zero_le _) ?_
 case refine_2=>
  have e0:out++(l.take 0).map Zbl=out:=by rw[List.take_zero,List.map_nil,List.append_nil]
  rw[e0];exact ZaW
 rintro i hi
 cases h1:decide ((i:Int)<(l.length:Int))with
 |false=>
  have e:i=l.length:=by have:=of_decide_eq_false h1;omega
  refine Zae ?_
  refine Zab ?_
  refine Zaf ?_
  refine brF h1 ?_
  refine⟨rfl, ?_⟩
  rw[e,List.take_length]
  exact Zai ⟨rfl,rfl,rfl,trivial⟩
 |true=>
  have hlt:i<l.length:=by have:=of_decide_eq_true h1;omega
  have gx:l[(i:Int).toNat]? =some l[i]:=by rw[Int.toNat_natCast];exact List.getElem?_eq_getElem hlt
  have hx:=hf _ (List.getElem_mem hlt)
  have hnext:out++(l.take (i+1)).map Zbl=(out++(l.take i).map Zbl)++ [Zbl l[i]]:=by
   rw[List.take_add_one,List.getElem?_eq_getElem hlt,List.map_append,List.append_assoc];rfl
  have hlen:(out++(l.take i).map Zbl).length≤1000:=by rw[List.length_append,List.length_map,List.length_take];omega
  obtain⟨x,ex⟩: ∃x,l[i]=x:=⟨_,rfl⟩
  obtain⟨ac,ea⟩: ∃ac,out++(l.take i).map Zbl=ac:=⟨_,rfl⟩
  rw[ex]at gx hnext hx
  rw[ea]at hlen hnext
  rw[ea]
  have hR:=Zro netc ac [.cell [.v .s x.1, .v .s x.2.1, .v .s x.2.2.1, .v (.i .i64) x.2.2.2.1, .v (.i .i64) x.2.2.2.2.1, .v (.i .i64) x.2.2.2.2.2.1, .v (.i .i64) x.2.2.2.2.2.2.1, .v (.i .i64) x.2.2.2.2.2.2.2.1, .v (.i .i64) x.2.2.2.2.2.2.2.2] true, .row .s (ZgK x) true, .row (.i .i64) (Zfp x) true] 4 5 (ZgK x) (Zfp x) true true rfl rfl (List.cons_ne_nil _ _) (Nat.le_of_ble_eq_true rfl) hx.1 (Nat.le_of_ble_eq_true rfl) hx.2 hlen
  refine Zae ?_
  refine Zab ?_
  refine Zaf ?_
  refine brT h1 ?_
  refine Zae ?_
  refine Zbb rfl (fun _=>rfl) (Int.natCast_nonneg i) gx rfl rfl ?_
  refine Zab ?_
  refine ZaR ?_
  refine Zac rfl (ZaB rfl rfl rfl rfl rfl rfl rfl rfl ?_)
  refine Zar rfl ?_
  refine Zaf ?_
  refine Zae ?_
  iterate 2 refine Zab ?_
  refine Zag rfl (fun _=>rfl) rfl rfl rfl ?_
  refine Zab ?_
  refine Zag rfl (fun _=>rfl) rfl rfl rfl ?_
  refine Zab ?_
  refine Zag rfl (fun _=>rfl) rfl rfl rfl ?_
  refine ZaR ?_
  refine Zab ?_
  refine Zag rfl (fun _=>rfl) rfl rfl rfl ?_
  refine Zab ?_
  refine Zag rfl (fun _=>rfl) rfl rfl rfl ?_
  refine Zab ?_
  refine Zag rfl (fun _=>rfl) rfl rfl rfl ?_
  refine Zab ?_
  refine Zag rfl (fun _=>rfl) rfl rfl rfl ?_
  refine Zab ?_
  refine Zag rfl (fun _=>rfl) rfl rfl rfl ?_
  refine Zab ?_
  refine Zag rfl (fun _=>rfl) rfl rfl rfl ?_
  refine ZaR ?_
  refine Zac rfl ((hR.mono ?_))
  rintro _ hp' ⟨rfl,k,hk,rfl⟩
  refine Zaa rfl rfl ?_
  refine Zaf ?_
  refine Zae ?_
  iterate 2 refine Zab ?_
  refine Zaf ?_
  refine⟨i+1,hlt,by show l.length-(i+1)<l.length-i;omega, ?_⟩
  show Ent 0 _ _ (zBr l (i+1)) (hM netc (out++(l.take (i+1)).map Zbl) [])
  rw[hnext]
  exact ZdG hr hk ⟨rfl,ZaS (by show 0<3;omega),rfl,ZaS (by show 1<3;omega),rfl,Zke,rfl,Za4,rfl,Za4,congrArg (fun x=>some (SV.v (.i .i64) x)) (Za7 (by omega)),Za4,trivial⟩
def ZgF (x:Ge):List Txt:=[[103,101,110],x.1,x.2.1]
def ZfM (x:Ge):List Int:=[x.2.2.1,x.2.2.2.1,x.2.2.2.2]
def Zbr (x:Ge):Txt:=ZjN (ZgF x) (ZfM x)
def zGe (l:List Ge) (i:Nat):TM:=[(1, .ptr 0 0 0),(3, .ptr 1 0 0),(9,Zrl),(97, .v (.l (.p .s (.p .s (.p (.i .i64) (.p (.i .i64) (.i .i64)))))) l),(98,nt l.length),(99,nt i)]
set_option maxHeartbeats 16000000 in
theorem Zrs (netc:List SV) (out:List Txt) (l:List Ge) (hr:rchL netc=[]) (ho:out.length≤500) (hl:l.length≤100) (hf: ∀x∈l,Zss (ZgF x) (ZfM x)):
 LoopOK Tryd.prog Zaw 0 ⟨10,0,159⟩ (Zbt Tryd.f10 26) (zGe l 0) (hM netc out [])
 (fun e tm hp'=>e= .exit 6∧Ent 0 tm hp' [(1, .ptr 0 0 0),(3, .ptr 1 0 0),(9,Zrl)] (hM netc (out++l.map Zbr) [])):=by
 refine ZaH Zao rfl (zGe l) (fun i=>hM netc (out++(l.take i).map Zbr) []) (fun i=>i≤l.length) (fun i=>l.length-i) ?_ 0 (Nat.zero_le _) ?_
 case refine_2=>
  have e0:out++(l.take 0).map Zbr=out:=by rw[List.take_zero,List.map_nil,List.append_nil]
  rw[e0];exact ZaW
 rintro i hi
 cases h1:decide ((i:Int)<(l.length:Int))with
 |false=>
  have e:i=l.length:=by have:=of_decide_eq_false h1;omega
  refine Zae ?_
  refine Zab ?_
  refine Zaf ?_
  refine brF h1 ?_
  refine⟨rfl, ?_⟩
  rw[e,List.take_length]
  exact Zai ⟨rfl,rfl,rfl,trivial⟩
 |true=>
  have hlt:i<l.length:=by have:=of_decide_eq_true h1;omega
  have gx:l[(i:Int).toNat]? =some l[i]:=by rw[Int.toNat_natCast];exact List.getElem?_eq_getElem hlt
  have hx:=hf _ (List.getElem_mem hlt)
  have hnext:out++(l.take (i+1)).map Zbr=(out++(l.take i).map Zbr)++ [Zbr l[i]]:=by
   rw[List.take_add_one,List.getElem?_eq_getElem hlt,List.map_append,List.append_assoc];rfl
  have hlen:(out++(l.take i).map Zbr).length≤1000:=by rw[List.length_append,List.length_map,List.length_take];omega
  obtain⟨x,ex⟩: ∃x,l[i]=x:=⟨_,rfl⟩
  obtain⟨ac,ea⟩: ∃ac,out++(l.take i).map Zbr=ac:=⟨_,rfl⟩
  rw[ex]at gx hnext hx
  rw[ea]at hlen hnext
  rw[ea]
  have hR:=Zro netc ac [.cell [.v .s x.1, .v .s x.2.1, .v (.i .i64) x.2.2.1, .v (.i .i64) x.2.2.2.1, .v (.i .i64) x.2.2.2.2] true, .row .s (ZgF x) true, .row (.i .i64) (ZfM x) true] 4 5 (ZgF x) (ZfM x) true true rfl rfl (List.cons_ne_nil _ _) (Nat.le_of_ble_eq_true rfl) hx.1 (Nat.le_of_ble_eq_true rfl) hx.2 hlen
  refine Zae ?_
  refine Zab ?_
  refine Zaf ?_
  refine brT h1 ?_
  refine Zae ?_
  refine Zbb rfl (fun _=>rfl) (Int.natCast_nonneg i) gx rfl rfl ?_
  refine Zab ?_
  refine ZaR ?_
  refine Zac rfl (ZaB rfl rfl rfl rfl rfl rfl rfl rfl ?_)
  refine Zar rfl ?_
  refine Zaf ?_
  refine Zae ?_
  iterate 2 refine Zab ?_
  refine Zag rfl (fun _=>rfl) rfl rfl rfl ?_
  refine Zab ?_
  refine Zag rfl (fun _=>rfl) rfl rfl rfl ?_
  refine ZaR ?_
  refine Zab ?_
  refine Zag rfl (fun _=>rfl) rfl rfl rfl ?_
  refine Zab ?_
  refine Zag rfl (fun _=>rfl) rfl rfl rfl ?_
  refine Zab ?_
  refine Zag rfl (fun _=>rfl) rfl rfl rfl ?_
  refine ZaR ?_
  refine Zac rfl ((hR.mono ?_))
  rintro _ hp' ⟨rfl,k,hk,rfl⟩
  refine Zaa rfl rfl ?_
  refine Zaf ?_
  refine Zae ?_
  iterate 2 refine Zab ?_
  refine Zaf ?_
  refine⟨i+1,hlt,by show l.length-(i+1)<l.length-i;omega, ?_⟩
  show Ent 0 _ _ (zGe l (i+1)) (hM netc (out++(l.take (i+1)).map Zbr) [])
  rw[hnext]
  exact ZdG hr hk ⟨rfl,ZaS (by show 0<3;omega),rfl,ZaS (by show 1<3;omega),rfl,Zke,rfl,Za4,rfl,Za4,congrArg (fun x=>some (SV.v (.i .i64) x)) (Za7 (by omega)),Za4,trivial⟩
def Zgx (x:Lo):List Txt:=[[108,111,97,100],x.1,x.2.1]
def Zf6 (x:Lo):List Int:=[x.2.2]
def ZbB (x:Lo):Txt:=ZjN (Zgx x) (Zf6 x)
def zLo (l:List Lo) (i:Nat):TM:=[(1, .ptr 0 0 0),(3, .ptr 1 0 0),(9,Zrl),(119, .v (.l (.p .s (.p .s (.i .i64)))) l),(120,nt l.length),(121,nt i)]
set_option maxHeartbeats 16000000 in
theorem Zsb (netc:List SV) (out:List Txt) (l:List Lo) (hr:rchL netc=[]) (ho:out.length≤500) (hl:l.length≤100) (hf: ∀x∈l,Zss (Zgx x) (Zf6 x)):
 LoopOK Tryd.prog Zaw 0 ⟨10,0,159⟩ (Zbt Tryd.f10 31) (zLo l 0) (hM netc out [])
 (fun e tm hp'=>e= .exit 8∧Ent 0 tm hp' [(1, .ptr 0 0 0),(3, .ptr 1 0 0),(9,Zrl)] (hM netc (out++l.map ZbB) [])):=by
 refine ZaH Zao rfl (zLo l) (fun i=>hM netc (out++(l.take i).map ZbB) []) (fun i=>i≤l.length) (fun i=>l.length-i) ?_ 0 (Nat.zero_le _) ?_
 case refine_2=>
  have e0:out++(l.take 0).map ZbB=out:=by rw[List.take_zero,List.map_nil,List.append_nil]
  rw[e0];exact ZaW
 rintro i hi
 cases h1:decide ((i:Int)<(l.length:Int))with
 |false=>
  have e:i=l.length:=by have:=of_decide_eq_false h1;omega
  refine Zae ?_
  refine Zab ?_
  refine Zaf ?_
  refine brF h1 ?_
  refine⟨rfl, ?_⟩
  rw[e,List.take_length]
  exact Zai ⟨rfl,rfl,rfl,trivial⟩
 |true=>
  have hlt:i<l.length:=by have:=of_decide_eq_true h1;omega
  have gx:l[(i:Int).toNat]? =some l[i]:=by rw[Int.toNat_natCast];exact List.getElem?_eq_getElem hlt
  have hx:=hf _ (List.getElem_mem hlt)
  have hnext:out++(l.take (i+1)).map ZbB=(out++(l.take i).map ZbB)++ [ZbB l[i]]:=by
   rw[List.take_add_one,List.getElem?_eq_getElem hlt,List.map_append,List.append_assoc];rfl
  have hlen:(out++(l.take i).map ZbB).length≤1000:=by rw[List.length_append,List.length_map,List.length_take];omega
  obtain⟨x,ex⟩: ∃x,l[i]=x:=⟨_,rfl⟩
  obtain⟨ac,ea⟩: ∃ac,out++(l.take i).map ZbB=ac:=⟨_,rfl⟩
  rw[ex]at gx hnext hx
  rw[ea]at hlen hnext
  rw[ea]
  have hR:=Zro netc ac [.cell [.v .s x.1, .v .s x.2.1, .v (.i .i64) x.2.2] true, .row .s (Zgx x) true, .row (.i .i64) (Zf6 x) true] 4 5 (Zgx x) (Zf6 x) true true rfl rfl (List.cons_ne_nil _ _) (Nat.le_of_ble_eq_true rfl) hx.1 (Nat.le_of_ble_eq_true rfl) hx.2 hlen
  refine Zae ?_
  refine Zab ?_
  refine Zaf ?_
  refine brT h1 ?_
  refine Zae ?_
  refine Zbb rfl (fun _=>rfl) (Int.natCast_nonneg i) gx rfl rfl ?_
  refine Zab ?_
  refine ZaR ?_
  refine Zac rfl (ZaB rfl rfl rfl rfl rfl rfl rfl rfl ?_)
  refine Zar rfl ?_
  refine Zaf ?_
  refine Zae ?_
  iterate 2 refine Zab ?_
  refine Zag rfl (fun _=>rfl) rfl rfl rfl ?_
  refine Zab ?_
  refine Zag rfl (fun _=>rfl) rfl rfl rfl ?_
  refine ZaR ?_
  refine Zab ?_
  refine Zag rfl (fun _=>rfl) rfl rfl rfl ?_
  refine ZaR ?_
  refine Zac rfl ((hR.mono ?_))
  rintro _ hp' ⟨rfl,k,hk,rfl⟩
  refine Zaa rfl rfl ?_
  refine Zaf ?_
  refine Zae ?_
  iterate 2 refine Zab ?_
  refine Zaf ?_
  refine⟨i+1,hlt,by show l.length-(i+1)<l.length-i;omega, ?_⟩
  show Ent 0 _ _ (zLo l (i+1)) (hM netc (out++(l.take (i+1)).map ZbB) [])
  rw[hnext]
  exact ZdG hr hk ⟨rfl,ZaS (by show 0<3;omega),rfl,ZaS (by show 1<3;omega),rfl,Zke,rfl,Za4,rfl,Za4,congrArg (fun x=>some (SV.v (.i .i64) x)) (Za7 (by omega)),Za4,trivial⟩
def ZgI (x:Sto):List Txt:=[[115,116,111,114,101],x.1,x.2.1]
def ZfF (x:Sto):List Int:=[x.2.2.1,x.2.2.2.1,x.2.2.2.2]
def ZbE (x:Sto):Txt:=ZjN (ZgI x) (ZfF x)
def zSt (l:List Sto) (i:Nat):TM:=[(1, .ptr 0 0 0),(3, .ptr 1 0 0),(9,Zrl),(137, .v (.l (.p .s (.p .s (.p (.i .i64) (.p (.i .i64) (.i .i64)))))) l),(138,nt l.length),(139,nt i)]
set_option maxHeartbeats 16000000 in
theorem Zr7 (netc:List SV) (out:List Txt) (l:List Sto) (hr:rchL netc=[]) (ho:out.length≤500) (hl:l.length≤100) (hf: ∀x∈l,Zss (ZgI x) (ZfF x)):
 LoopOK Tryd.prog Zaw 0 ⟨10,0,159⟩ (Zbt Tryd.f10 36) (zSt l 0) (hM netc out [])
 (fun e tm hp'=>e= .exit 10∧Ent 0 tm hp' [(1, .ptr 0 0 0),(3, .ptr 1 0 0),(9,Zrl)] (hM netc (out++l.map ZbE) [])):=by
 refine ZaH Zao rfl (zSt l) (fun i=>hM netc (out++(l.take i).map ZbE) []) (fun i=>i≤l.length) (fun i=>l.length-i) ?_ 0 (Nat.zero_le _) ?_
 case refine_2=>
  have e0:out++(l.take 0).map ZbE=out:=by rw[List.take_zero,List.map_nil,List.append_nil]
  rw[e0];exact ZaW
 rintro i hi
 cases h1:decide ((i:Int)<(l.length:Int))with
 |false=>
  have e:i=l.length:=by have:=of_decide_eq_false h1;omega
  refine Zae ?_
  refine Zab ?_
  refine Zaf ?_
  refine brF h1 ?_
  refine⟨rfl, ?_⟩
  rw[e,List.take_length]
  exact Zai ⟨rfl,rfl,rfl,trivial⟩
 |true=>
  have hlt:i<l.length:=by have:=of_decide_eq_true h1;omega
  have gx:l[(i:Int).toNat]? =some l[i]:=by rw[Int.toNat_natCast];exact List.getElem?_eq_getElem hlt
  have hx:=hf _ (List.getElem_mem hlt)
  have hnext:out++(l.take (i+1)).map ZbE=(out++(l.take i).map ZbE)++ [ZbE l[i]]:=by
   rw[List.take_add_one,List.getElem?_eq_getElem hlt,List.map_append,List.append_assoc];rfl
  have hlen:(out++(l.take i).map ZbE).length≤1000:=by rw[List.length_append,List.length_map,List.length_take];omega
  obtain⟨x,ex⟩: ∃x,l[i]=x:=⟨_,rfl⟩
  obtain⟨ac,ea⟩: ∃ac,out++(l.take i).map ZbE=ac:=⟨_,rfl⟩
  rw[ex]at gx hnext hx
  rw[ea]at hlen hnext
  rw[ea]
  have hR:=Zro netc ac [.cell [.v .s x.1, .v .s x.2.1, .v (.i .i64) x.2.2.1, .v (.i .i64) x.2.2.2.1, .v (.i .i64) x.2.2.2.2] true, .row .s (ZgI x) true, .row (.i .i64) (ZfF x) true] 4 5 (ZgI x) (ZfF x) true true rfl rfl (List.cons_ne_nil _ _) (Nat.le_of_ble_eq_true rfl) hx.1 (Nat.le_of_ble_eq_true rfl) hx.2 hlen
  refine Zae ?_
  refine Zab ?_
  refine Zaf ?_
  refine brT h1 ?_
  refine Zae ?_
  refine Zbb rfl (fun _=>rfl) (Int.natCast_nonneg i) gx rfl rfl ?_
  refine Zab ?_
  refine ZaR ?_
  refine Zac rfl (ZaB rfl rfl rfl rfl rfl rfl rfl rfl ?_)
  refine Zar rfl ?_
  refine Zaf ?_
  refine Zae ?_
  iterate 2 refine Zab ?_
  refine Zag rfl (fun _=>rfl) rfl rfl rfl ?_
  refine Zab ?_
  refine Zag rfl (fun _=>rfl) rfl rfl rfl ?_
  refine ZaR ?_
  refine Zab ?_
  refine Zag rfl (fun _=>rfl) rfl rfl rfl ?_
  refine Zab ?_
  refine Zag rfl (fun _=>rfl) rfl rfl rfl ?_
  refine Zab ?_
  refine Zag rfl (fun _=>rfl) rfl rfl rfl ?_
  refine ZaR ?_
  refine Zac rfl ((hR.mono ?_))
  rintro _ hp' ⟨rfl,k,hk,rfl⟩
  refine Zaa rfl rfl ?_
  refine Zaf ?_
  refine Zae ?_
  iterate 2 refine Zab ?_
  refine Zaf ?_
  refine⟨i+1,hlt,by show l.length-(i+1)<l.length-i;omega, ?_⟩
  show Ent 0 _ _ (zSt l (i+1)) (hM netc (out++(l.take (i+1)).map ZbE) [])
  rw[hnext]
  exact ZdG hr hk ⟨rfl,ZaS (by show 0<3;omega),rfl,ZaS (by show 1<3;omega),rfl,Zke,rfl,Za4,rfl,Za4,congrArg (fun x=>some (SV.v (.i .i64) x)) (Za7 (by omega)),Za4,trivial⟩
end Go.Proofs.YtgngdcpglnfkeaaDoor

/-
 The reference's NetLines: the loops that call its closure. (Printed by tools/genlines.py.)
-/
import Derived.Test.YtbdkglokkepmfaaDoorUI
set_option linter.constructorNameAsVariable false
set_option linter.unusedSimpArgs false
set_option linter.unusedVariables false
namespace Go.Proofs.YtbdkglokkepmfaaDoor
open Go.Am Go.Tx Ne
set_option maxRecDepth 100000
abbrev ZqQ:SV:= .func 19 [] [.ptr 1 0 0]
theorem Zjp: ∀id∈ZcP ZqQ,id<3:=fun id hid=>by
 have h:id=1:=by simpa[ZcP,rchL]using hid
 omega
def ZnG (ws:List Txt) (vs:List Int):Prop:=(∀w∈ws,w.length≤1000)∧ ∀v∈vs,-1000000≤v∧v≤1000000
def ZdF (x:Br):List Txt:=[[98,114,97,110,99,104],x.1,x.2.1,x.2.2.1]
def ZdQ (x:Br):List Int:=[x.2.2.2.1,x.2.2.2.2.1,x.2.2.2.2.2.1,x.2.2.2.2.2.2.1,x.2.2.2.2.2.2.2.1,x.2.2.2.2.2.2.2.2]
def Za7 (x:Br):Txt:=ZhJ (ZdF x) (ZdQ x)
def zBr (l:List Br) (i:Nat):TM:=[(1, .ptr 0 0 0),(3, .ptr 1 0 0),(9,ZqQ),(67, .v (.l ZrT) l),(68,nt l.length),(69,nt i)]
set_option maxHeartbeats 16000000 in
theorem ZqU (netc:List SV) (out:List Txt) (l:List Br) (hr:rchL netc=[]) (ho:out.length≤500) (hl:l.length≤100) (hf: ∀x∈l,ZnG (ZdF x) (ZdQ x)):
 LoopOK Tryd.prog Zax 0 ⟨8,0,159⟩ (ZaX Tryd.f8 21) (zBr l 0) (hM netc out [])
 (fun e tm hp'=>e= .exit 4∧Ent 0 tm hp' [(1, .ptr 0 0 0),(3, .ptr 1 0 0),(9,ZqQ)] (hM netc (out++l.map Za7) [])):=by
 refine ZaB Zaq rfl (zBr l) (fun i=>hM netc (out++(l.take i).map Za7) []) (fun i=>i≤l.length) (fun i=>l.length-i) ?_ 0 (Nat.zero_le _) ?_
 case refine_2=>
  have e0:out++(l.take 0).map Za7=out:=by rw[List.take_zero,List.map_nil,List.append_nil]
  rw[e0];exact ZaC
 rintro i hi
 cases h1:decide ((i:Int)<(l.length:Int))with
 |false=>
  have e:i=l.length:=by have:=of_decide_eq_false h1;omega
  refine Zae ?_
  refine Zaa ?_
  refine Zad ?_
  refine brF h1 ?_
  refine⟨rfl, ?_⟩
  rw[e,List.take_length]
  exact Zah ⟨rfl,rfl,rfl,trivial⟩
 |true=>
  have hlt:i<l.length:=by have:=of_decide_eq_true h1;omega
  have gx:l[(i:Int).toNat]? =some l[i]:=by rw[Int.toNat_natCast];exact List.getElem?_eq_getElem hlt
  have hx:=hf _ (List.getElem_mem hlt)
  have hnext:out++(l.take (i+1)).map Za7=(out++(l.take i).map Za7)++ [Za7 l[i]]:=by
   rw[List.take_add_one,List.getElem?_eq_getElem hlt,List.map_append,List.append_assoc];rfl
  have hlen:(out++(l.take i).map Za7).length≤1000:=by rw[List.length_append,List.length_map,List.length_take];omega
  obtain⟨x,ex⟩: ∃x,l[i]=x:=⟨_,rfl⟩
  obtain⟨ac,ea⟩: ∃ac,out++(l.take i).map Za7=ac:=⟨_,rfl⟩
  rw[ex]at gx hnext hx
  rw[ea]at hlen hnext
  rw[ea]
  have hR:=Zqr netc ac [.cell [.v .s x.1, .v .s x.2.1, .v .s x.2.2.1, .v (.i .i64) x.2.2.2.1, .v (.i .i64) x.2.2.2.2.1, .v (.i .i64) x.2.2.2.2.2.1, .v (.i .i64) x.2.2.2.2.2.2.1, .v (.i .i64) x.2.2.2.2.2.2.2.1, .v (.i .i64) x.2.2.2.2.2.2.2.2] true, .row .s (ZdF x) true, .row (.i .i64) (ZdQ x) true] 4 5 (ZdF x) (ZdQ x) true true rfl rfl (List.cons_ne_nil _ _) (Nat.le_of_ble_eq_true rfl) hx.1 (Nat.le_of_ble_eq_true rfl) hx.2 hlen
  refine Zae ?_
  refine Zaa ?_
  refine Zad ?_
  refine brT h1 ?_
  refine Zae ?_
  refine Za5 rfl (fun _=>rfl) (Int.natCast_nonneg i) gx rfl rfl ?_
  refine Zaa ?_
  refine ZaQ ?_
  refine Zaf rfl (Zar rfl rfl rfl rfl rfl rfl rfl rfl ?_)
  refine Zaw rfl ?_
  refine Zad ?_
  refine Zae ?_
  iterate 2 refine Zaa ?_
  refine Zag rfl (fun _=>rfl) rfl rfl rfl ?_
  refine Zaa ?_
  refine Zag rfl (fun _=>rfl) rfl rfl rfl ?_
  refine Zaa ?_
  refine Zag rfl (fun _=>rfl) rfl rfl rfl ?_
  refine ZaQ ?_
  refine Zaa ?_
  refine Zag rfl (fun _=>rfl) rfl rfl rfl ?_
  refine Zaa ?_
  refine Zag rfl (fun _=>rfl) rfl rfl rfl ?_
  refine Zaa ?_
  refine Zag rfl (fun _=>rfl) rfl rfl rfl ?_
  refine Zaa ?_
  refine Zag rfl (fun _=>rfl) rfl rfl rfl ?_
  refine Zaa ?_
  refine Zag rfl (fun _=>rfl) rfl rfl rfl ?_
  refine Zaa ?_
  refine Zag rfl (fun _=>rfl) rfl rfl rfl ?_
  refine ZaQ ?_
  refine Zaf rfl ((hR.mono ?_))
  rintro _ hp' ⟨rfl,k,hk,rfl⟩
  refine Zab rfl rfl ?_
  refine Zad ?_
  refine Zae ?_
  iterate 2 refine Zaa ?_
  refine Zad ?_
  refine⟨i+1,hlt,by show l.length-(i+1)<l.length-i;omega, ?_⟩
  show Ent 0 _ _ (zBr l (i+1)) (hM netc (out++(l.take (i+1)).map Za7) [])
  rw[hnext]
  exact Zdp hr hk ⟨rfl,ZaD (by show 0<3;omega),rfl,ZaD (by show 1<3;omega),rfl,Zjp,rfl,ZaO,rfl,ZaO,congrArg (fun x=>some (SV.v (.i .i64) x)) (ZaW (by omega)),ZaO,trivial⟩
def ZdM (x:Ge):List Txt:=[[103,101,110],x.1,x.2.1]
def ZdP (x:Ge):List Int:=[x.2.2.1,x.2.2.2.1,x.2.2.2.2]
def Zbf (x:Ge):Txt:=ZhJ (ZdM x) (ZdP x)
def zGe (l:List Ge) (i:Nat):TM:=[(1, .ptr 0 0 0),(3, .ptr 1 0 0),(9,ZqQ),(97, .v (.l (.p .s (.p .s (.p (.i .i64) (.p (.i .i64) (.i .i64)))))) l),(98,nt l.length),(99,nt i)]
set_option maxHeartbeats 16000000 in
theorem Zqo (netc:List SV) (out:List Txt) (l:List Ge) (hr:rchL netc=[]) (ho:out.length≤500) (hl:l.length≤100) (hf: ∀x∈l,ZnG (ZdM x) (ZdP x)):
 LoopOK Tryd.prog Zax 0 ⟨8,0,159⟩ (ZaX Tryd.f8 26) (zGe l 0) (hM netc out [])
 (fun e tm hp'=>e= .exit 6∧Ent 0 tm hp' [(1, .ptr 0 0 0),(3, .ptr 1 0 0),(9,ZqQ)] (hM netc (out++l.map Zbf) [])):=by
 refine ZaB Zaq rfl (zGe l) (fun i=>hM netc (out++(l.take i).map Zbf) []) (fun i=>i≤l.length) (fun i=>l.length-i) ?_ 0 (Nat.zero_le _) ?_
 case refine_2=>
  have e0:out++(l.take 0).map Zbf=out:=by rw[List.take_zero,List.map_nil,List.append_nil]
  rw[e0];exact ZaC
 rintro i hi
 cases h1:decide ((i:Int)<(l.length:Int))with
 |false=>
  have e:i=l.length:=by have:=of_decide_eq_false h1;omega
  refine Zae ?_
  refine Zaa ?_
  refine Zad ?_
  refine brF h1 ?_
  refine⟨rfl, ?_⟩
  rw[e,List.take_length]
  exact Zah ⟨rfl,rfl,rfl,trivial⟩
 |true=>
  have hlt:i<l.length:=by have:=of_decide_eq_true h1;omega
  have gx:l[(i:Int).toNat]? =some l[i]:=by rw[Int.toNat_natCast];exact List.getElem?_eq_getElem hlt
  have hx:=hf _ (List.getElem_mem hlt)
  have hnext:out++(l.take (i+1)).map Zbf=(out++(l.take i).map Zbf)++ [Zbf l[i]]:=by
   rw[List.take_add_one,List.getElem?_eq_getElem hlt,List.map_append,List.append_assoc];rfl
  have hlen:(out++(l.take i).map Zbf).length≤1000:=by rw[List.length_append,List.length_map,List.length_take];omega
  obtain⟨x,ex⟩: ∃x,l[i]=x:=⟨_,rfl⟩
  obtain⟨ac,ea⟩: ∃ac,out++(l.take i).map Zbf=ac:=⟨_,rfl⟩
  rw[ex]at gx hnext hx
  rw[ea]at hlen hnext
  rw[ea]
  have hR:=Zqr netc ac [.cell [.v .s x.1, .v .s x.2.1, .v (.i .i64) x.2.2.1, .v (.i .i64) x.2.2.2.1, .v (.i .i64) x.2.2.2.2] true, .row .s (ZdM x) true, .row (.i .i64) (ZdP x) true] 4 5 (ZdM x) (ZdP x) true true rfl rfl (List.cons_ne_nil _ _) (Nat.le_of_ble_eq_true rfl) hx.1 (Nat.le_of_ble_eq_true rfl) hx.2 hlen
  refine Zae ?_
  refine Zaa ?_
  refine Zad ?_
  refine brT h1 ?_
  refine Zae ?_
  refine Za5 rfl (fun _=>rfl) (Int.natCast_nonneg i) gx rfl rfl ?_
  refine Zaa ?_
  refine ZaQ ?_
  refine Zaf rfl (Zar rfl rfl rfl rfl rfl rfl rfl rfl ?_)
  refine Zaw rfl ?_
  refine Zad ?_
  refine Zae ?_
  iterate 2 refine Zaa ?_
  refine Zag rfl (fun _=>rfl) rfl rfl rfl ?_
  refine Zaa ?_
  refine Zag rfl (fun _=>rfl) rfl rfl rfl ?_
  refine ZaQ ?_
  refine Zaa ?_
  refine Zag rfl (fun _=>rfl) rfl rfl rfl ?_
  refine Zaa ?_
  refine Zag rfl (fun _=>rfl) rfl rfl rfl ?_
  refine Zaa ?_
  refine Zag rfl (fun _=>rfl) rfl rfl rfl ?_
  refine ZaQ ?_
  refine Zaf rfl ((hR.mono ?_))
  rintro _ hp' ⟨rfl,k,hk,rfl⟩
  refine Zab rfl rfl ?_
  refine Zad ?_
  refine Zae ?_
  iterate 2 refine Zaa ?_
  refine Zad ?_
  refine⟨i+1,hlt,by show l.length-(i+1)<l.length-i;omega, ?_⟩
  show Ent 0 _ _ (zGe l (i+1)) (hM netc (out++(l.take (i+1)).map Zbf) [])
  rw[hnext]
  exact Zdp hr hk ⟨rfl,ZaD (by show 0<3;omega),rfl,ZaD (by show 1<3;omega),rfl,Zjp,rfl,ZaO,rfl,ZaO,congrArg (fun x=>some (SV.v (.i .i64) x)) (ZaW (by omega)),ZaO,trivial⟩
def ZdN (x:Lo):List Txt:=[[108,111,97,100],x.1,x.2.1]
def ZdV (x:Lo):List Int:=[x.2.2]
def Zbh (x:Lo):Txt:=ZhJ (ZdN x) (ZdV x)
def zLo (l:List Lo) (i:Nat):TM:=[(1, .ptr 0 0 0),(3, .ptr 1 0 0),(9,ZqQ),(119, .v (.l (.p .s (.p .s (.i .i64)))) l),(120,nt l.length),(121,nt i)]
set_option maxHeartbeats 16000000 in
theorem Zrd (netc:List SV) (out:List Txt) (l:List Lo) (hr:rchL netc=[]) (ho:out.length≤500) (hl:l.length≤100) (hf: ∀x∈l,ZnG (ZdN x) (ZdV x)):
 LoopOK Tryd.prog Zax 0 ⟨8,0,159⟩ (ZaX Tryd.f8 31) (zLo l 0) (hM netc out [])
 (fun e tm hp'=>e= .exit 8∧Ent 0 tm hp' [(1, .ptr 0 0 0),(3, .ptr 1 0 0),(9,ZqQ)] (hM netc (out++l.map Zbh) [])):=by
 refine ZaB Zaq rfl (zLo l) (fun i=>hM netc (out++(l.take i).map Zbh) []) (fun i=>i≤l.length) (fun i=>l.length-i) ?_ 0 (Nat.zero_le _) ?_
 case refine_2=>
  have e0:out++(l.take 0).map Zbh=out:=by rw[List.take_zero,List.map_nil,List.append_nil]
  rw[e0];exact ZaC
 rintro i hi
 cases h1:decide ((i:Int)<(l.length:Int))with
 |false=>
  have e:i=l.length:=by have:=of_decide_eq_false h1;omega
  refine Zae ?_
  refine Zaa ?_
  refine Zad ?_
  refine brF h1 ?_
  refine⟨rfl, ?_⟩
  rw[e,List.take_length]
  exact Zah ⟨rfl,rfl,rfl,trivial⟩
 |true=>
  have hlt:i<l.length:=by have:=of_decide_eq_true h1;omega
  have gx:l[(i:Int).toNat]? =some l[i]:=by rw[Int.toNat_natCast];exact List.getElem?_eq_getElem hlt
  have hx:=hf _ (List.getElem_mem hlt)
  have hnext:out++(l.take (i+1)).map Zbh=(out++(l.take i).map Zbh)++ [Zbh l[i]]:=by
   rw[List.take_add_one,List.getElem?_eq_getElem hlt,List.map_append,List.append_assoc];rfl
  have hlen:(out++(l.take i).map Zbh).length≤1000:=by rw[List.length_append,List.length_map,List.length_take];omega
  obtain⟨x,ex⟩: ∃x,l[i]=x:=⟨_,rfl⟩
  obtain⟨ac,ea⟩: ∃ac,out++(l.take i).map Zbh=ac:=⟨_,rfl⟩
  rw[ex]at gx hnext hx
  rw[ea]at hlen hnext
  rw[ea]
  have hR:=Zqr netc ac [.cell [.v .s x.1, .v .s x.2.1, .v (.i .i64) x.2.2] true, .row .s (ZdN x) true, .row (.i .i64) (ZdV x) true] 4 5 (ZdN x) (ZdV x) true true rfl rfl (List.cons_ne_nil _ _) (Nat.le_of_ble_eq_true rfl) hx.1 (Nat.le_of_ble_eq_true rfl) hx.2 hlen
  refine Zae ?_
  refine Zaa ?_
  refine Zad ?_
  refine brT h1 ?_
  refine Zae ?_
  refine Za5 rfl (fun _=>rfl) (Int.natCast_nonneg i) gx rfl rfl ?_
  refine Zaa ?_
  refine ZaQ ?_
  refine Zaf rfl (Zar rfl rfl rfl rfl rfl rfl rfl rfl ?_)
  refine Zaw rfl ?_
  refine Zad ?_
  refine Zae ?_
  iterate 2 refine Zaa ?_
  refine Zag rfl (fun _=>rfl) rfl rfl rfl ?_
  refine Zaa ?_
  refine Zag rfl (fun _=>rfl) rfl rfl rfl ?_
  refine ZaQ ?_
  refine Zaa ?_
  refine Zag rfl (fun _=>rfl) rfl rfl rfl ?_
  refine ZaQ ?_
  refine Zaf rfl ((hR.mono ?_))
  rintro _ hp' ⟨rfl,k,hk,rfl⟩
  refine Zab rfl rfl ?_
  refine Zad ?_
  refine Zae ?_
  iterate 2 refine Zaa ?_
  refine Zad ?_
  refine⟨i+1,hlt,by show l.length-(i+1)<l.length-i;omega, ?_⟩
  show Ent 0 _ _ (zLo l (i+1)) (hM netc (out++(l.take (i+1)).map Zbh) [])
  rw[hnext]
  exact Zdp hr hk ⟨rfl,ZaD (by show 0<3;omega),rfl,ZaD (by show 1<3;omega),rfl,Zjp,rfl,ZaO,rfl,ZaO,congrArg (fun x=>some (SV.v (.i .i64) x)) (ZaW (by omega)),ZaO,trivial⟩
def ZdO (x:Sto):List Txt:=[[115,116,111,114,101],x.1,x.2.1]
def ZdU (x:Sto):List Int:=[x.2.2.1,x.2.2.2.1,x.2.2.2.2]
def Zbq (x:Sto):Txt:=ZhJ (ZdO x) (ZdU x)
def zSt (l:List Sto) (i:Nat):TM:=[(1, .ptr 0 0 0),(3, .ptr 1 0 0),(9,ZqQ),(137, .v (.l (.p .s (.p .s (.p (.i .i64) (.p (.i .i64) (.i .i64)))))) l),(138,nt l.length),(139,nt i)]
set_option maxHeartbeats 16000000 in
theorem Zp1 (netc:List SV) (out:List Txt) (l:List Sto) (hr:rchL netc=[]) (ho:out.length≤500) (hl:l.length≤100) (hf: ∀x∈l,ZnG (ZdO x) (ZdU x)):
 LoopOK Tryd.prog Zax 0 ⟨8,0,159⟩ (ZaX Tryd.f8 36) (zSt l 0) (hM netc out [])
 (fun e tm hp'=>e= .exit 10∧Ent 0 tm hp' [(1, .ptr 0 0 0),(3, .ptr 1 0 0),(9,ZqQ)] (hM netc (out++l.map Zbq) [])):=by
 refine ZaB Zaq rfl (zSt l) (fun i=>hM netc (out++(l.take i).map Zbq) []) (fun i=>i≤l.length) (fun i=>l.length-i) ?_ 0 (Nat.zero_le _) ?_
 case refine_2=>
  have e0:out++(l.take 0).map Zbq=out:=by rw[List.take_zero,List.map_nil,List.append_nil]
  rw[e0];exact ZaC
 rintro i hi
 cases h1:decide ((i:Int)<(l.length:Int))with
 |false=>
  have e:i=l.length:=by have:=of_decide_eq_false h1;omega
  refine Zae ?_
  refine Zaa ?_
  refine Zad ?_
  refine brF h1 ?_
  refine⟨rfl, ?_⟩
  rw[e,List.take_length]
  exact Zah ⟨rfl,rfl,rfl,trivial⟩
 |true=>
  have hlt:i<l.length:=by have:=of_decide_eq_true h1;omega
  have gx:l[(i:Int).toNat]? =some l[i]:=by rw[Int.toNat_natCast];exact List.getElem?_eq_getElem hlt
  have hx:=hf _ (List.getElem_mem hlt)
  have hnext:out++(l.take (i+1)).map Zbq=(out++(l.take i).map Zbq)++ [Zbq l[i]]:=by
   rw[List.take_add_one,List.getElem?_eq_getElem hlt,List.map_append,List.append_assoc];rfl
  have hlen:(out++(l.take i).map Zbq).length≤1000:=by rw[List.length_append,List.length_map,List.length_take];omega
  obtain⟨x,ex⟩: ∃x,l[i]=x:=⟨_,rfl⟩
  obtain⟨ac,ea⟩: ∃ac,out++(l.take i).map Zbq=ac:=⟨_,rfl⟩
  rw[ex]at gx hnext hx
  rw[ea]at hlen hnext
  rw[ea]
  have hR:=Zqr netc ac [.cell [.v .s x.1, .v .s x.2.1, .v (.i .i64) x.2.2.1, .v (.i .i64) x.2.2.2.1, .v (.i .i64) x.2.2.2.2] true, .row .s (ZdO x) true, .row (.i .i64) (ZdU x) true] 4 5 (ZdO x) (ZdU x) true true rfl rfl (List.cons_ne_nil _ _) (Nat.le_of_ble_eq_true rfl) hx.1 (Nat.le_of_ble_eq_true rfl) hx.2 hlen
  refine Zae ?_
  refine Zaa ?_
  refine Zad ?_
  refine brT h1 ?_
  refine Zae ?_
  refine Za5 rfl (fun _=>rfl) (Int.natCast_nonneg i) gx rfl rfl ?_
  refine Zaa ?_
  refine ZaQ ?_
  refine Zaf rfl (Zar rfl rfl rfl rfl rfl rfl rfl rfl ?_)
  refine Zaw rfl ?_
  refine Zad ?_
  refine Zae ?_
  iterate 2 refine Zaa ?_
  refine Zag rfl (fun _=>rfl) rfl rfl rfl ?_
  refine Zaa ?_
  refine Zag rfl (fun _=>rfl) rfl rfl rfl ?_
  refine ZaQ ?_
  refine Zaa ?_
  refine Zag rfl (fun _=>rfl) rfl rfl rfl ?_
  refine Zaa ?_
  refine Zag rfl (fun _=>rfl) rfl rfl rfl ?_
  refine Zaa ?_
  refine Zag rfl (fun _=>rfl) rfl rfl rfl ?_
  refine ZaQ ?_
  refine Zaf rfl ((hR.mono ?_))
  rintro _ hp' ⟨rfl,k,hk,rfl⟩
  refine Zab rfl rfl ?_
  refine Zad ?_
  refine Zae ?_
  iterate 2 refine Zaa ?_
  refine Zad ?_
  refine⟨i+1,hlt,by show l.length-(i+1)<l.length-i;omega, ?_⟩
  show Ent 0 _ _ (zSt l (i+1)) (hM netc (out++(l.take (i+1)).map Zbq) [])
  rw[hnext]
  exact Zdp hr hk ⟨rfl,ZaD (by show 0<3;omega),rfl,ZaD (by show 1<3;omega),rfl,Zjp,rfl,ZaO,rfl,ZaO,congrArg (fun x=>some (SV.v (.i .i64) x)) (ZaW (by omega)),ZaO,trivial⟩
end Go.Proofs.YtbdkglokkepmfaaDoor

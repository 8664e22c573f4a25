/-
 The reference's NetError: the names met, the loop over the nodes.
-/
import Derived.Test.YtgmjnhiakpcpbaaGreatDoorU7
set_option linter.constructorNameAsVariable false
set_option linter.unusedSimpArgs false
set_option linter.unusedVariables false
namespace Go.Proofs.YtgmjnhiakpcpbaaGreatDoor
open Go.Am Go.Tx Ne
set_option maxRecDepth 100000
def Zdj (met:List Txt) (s:Txt):Int:=bif !Za8 s then 5 else bif ZcA s met then 7 else 0
def hM (A:List SV) (met:List Txt) (X:List SM):List SM:= .cell A true:: .cell [.ref 2 0 met.length none] true:: .row .s met true::X
def hN (A:List SV) (met:List Txt) (X:List SM) (s:Txt) (k:Nat):List SM:= .cell A true:: .cell [.ref k 0 (met.length+1) none] true:: .dead::((X++ [.row .s [s] true])++ [.row .s (met++ [s]) true])
set_option maxHeartbeats 16000000 in
theorem Zvm (A:List SV) (met:List Txt) (X:List SM) (s:Txt) (hm:met.length≤1000):
 OpenOK Tryz.prog ZaO 24 [.v .s s, .ptr 1 0 0] (hM A met X) (fun V hp'=>V= .v (.i .i64) (Zdj met s)∧(Zdj met s=0→ ∃k,k=X.length+4∧hp'=hN A met X s k)):=by
 refine ZfA (fn:=Tryz.f24) (code:=Zca Tryz.f24) Zaw (by kernel_rfl) Tryz.func24 (by kernel_rfl) (Nat.le_of_ble_eq_true (by kernel_rfl)) ?_
 intro base
 have hI:=Zrc s
 have hH:=Zui met s hm
 have hH:PureOK Tryz.prog ZaO 26 [.v (.l .s) (sub met 0 met.length), .v .s s] (fun V=>V= .v .b (ZcA s met)):=by rw[Zfs rfl];exact hH
 have zC:(met.length+1)*16≤140737488355328:=by omega
 cases h1:Za8 s with
 |false=>
  rw[h1]at hI
  have eN:Zdj met s=5:=by rw[Zdj,h1];rfl
  refine Zae ?_
  refine Zab ?_
  refine Zad ?_
  refine Zae ?_
  refine Zab ?_
  refine Zaf rfl ((hI).mono ?_)
  rintro _ rfl
  refine Zac rfl rfl ?_
  refine Zab ?_
  refine Zad ?_
  refine brT rfl ?_
  refine Zae ?_
  refine Zab ?_
  refine Zad ?_
  exact⟨congrArg (fun x=>SV.v (.i .i64) x) eN.symm,fun h=>by rw[eN]at h;cases h⟩
 |true=>
  rw[h1]at hI
  cases h2:ZcA s met with
  |true=>
   rw[h2]at hH
   have eN:Zdj met s=7:=by rw[Zdj,h1,h2];rfl
   refine Zae ?_
   refine Zab ?_
   refine Zad ?_
   refine Zae ?_
   refine Zab ?_
   refine Zaf rfl ((hI).mono ?_)
   rintro _ rfl
   refine Zac rfl rfl ?_
   refine Zab ?_
   refine Zad ?_
   refine brF rfl ?_
   refine Zae ?_
   refine Zal rfl (fun _=>rfl) rfl rfl rfl ?_
   refine Zab ?_
   refine Zaf rfl (And.intro (Nat.le_of_eq (Nat.zero_add _)) (hH.mono ?_))
   rintro _ rfl
   refine Zac rfl rfl ?_
   refine Zad ?_
   refine brT rfl ?_
   refine Zae ?_
   refine Zab ?_
   refine Zad ?_
   exact⟨congrArg (fun x=>SV.v (.i .i64) x) eN.symm,fun h=>by rw[eN]at h;cases h⟩
  |false=>
   rw[h2]at hH
   have eN:Zdj met s=0:=by rw[Zdj,h1,h2];rfl
   refine Zae ?_
   refine Zab ?_
   refine Zad ?_
   refine Zae ?_
   refine Zab ?_
   refine Zaf rfl ((hI).mono ?_)
   rintro _ rfl
   refine Zac rfl rfl ?_
   refine Zab ?_
   refine Zad ?_
   refine brF rfl ?_
   refine Zae ?_
   refine Zal rfl (fun _=>rfl) rfl rfl rfl ?_
   refine Zab ?_
   refine Zaf rfl (And.intro (Nat.le_of_eq (Nat.zero_add _)) (hH.mono ?_))
   rintro _ rfl
   refine Zac rfl rfl ?_
   refine Zad ?_
   refine brF rfl ?_
   refine Zae ?_
   refine Zal rfl (fun _=>rfl) rfl rfl rfl ?_
   refine Zab ?_
   refine Zbs ?_
   refine Zaf rfl (Zi5 rfl rfl rfl rfl rfl rfl rfl rfl rfl rfl (ZeO (a:=hM A met X)) rfl zC ?_)
   refine Zac rfl rfl ?_
   refine Zaf rfl (ZaM rfl rfl rfl rfl rfl rfl rfl rfl ?_)
   refine ZaI rfl ?_
   refine Zad ?_
   refine Zae ?_
   refine Zab ?_
   refine Zad ?_
   refine⟨congrArg (fun x=>SV.v (.i .i64) x) eN.symm,fun _=>⟨_, ?_,rfl⟩⟩
   simp[hM]
theorem Zls {A:List SV} {met:List Txt} {X:List SM} {s:Txt} {k:Nat} {tm tm':TM} (hr:rchL A=[]) (hk:k=X.length+4) (htm:ZrW (fun j=> [0,1,k].getD j 0) 3 tm tm'):
 Ent 0 tm (hN A met X s k) tm' (hM A (met++ [s]) []):=by
 subst hk
 have hk:(hN A met X s (X.length+4))[X.length+4]? =some (.row .s (met++ [s]) true):=by
  rw[hN,show X.length+4=X.length+1+1+1+1 from rfl,List.getElem?_cons_succ,List.getElem?_cons_succ,List.getElem?_cons_succ,List.getElem?_append_right (by simp)]
  simp
 have hl:(hN A met X s (X.length+4)).length=X.length+5:=by simp[hN]
 refine ZlW (fun j=> [0,1,X.length+4].getD j 0) (Nat.zero_le _) (fun j hj=>absurd hj (Nat.not_lt_zero j)) (fun j hj=> ?_) (fun a b ha hb hab=> ?_) htm fun j m hm=> .inr ?_
 ·rw[hl]
  have hj:j<3:=hj
  match j with
  |0=>show 0<_;omega
  |1=>show 1<_;omega
  |2=>show X.length+4<_;omega
  |j+3=>omega
 ·have ha:a<3:=ha
  have hb:b<3:=hb
  match a,b,hab with
  |0,0,_=>rfl
  |1,1,_=>rfl
  |2,2,_=>rfl
  |0,1,h=>exact absurd h (by show(0:Nat)≠1;omega)
  |1,0,h=>exact absurd h (by show(1:Nat)≠0;omega)
  |0,2,h=>exact absurd h (by show(0:Nat)≠X.length+4;omega)
  |2,0,h=>exact absurd h (by show X.length+4≠0;omega)
  |1,2,h=>exact absurd h (by show(1:Nat)≠X.length+4;omega)
  |2,1,h=>exact absurd h (by show X.length+4≠1;omega)
  |a+3,_,_=>omega
  |_,b+3,_=>omega
 ·match j,hm with
  |0,hm=>
   cases hm
   have e:=ZrE (f:=fun j=> [0,1,X.length+4].getD j 0) (p:=0) (fun j hj=>absurd hj (Nat.not_lt_zero j)) (.cell A true) (fun id hid=>by rw[ZgJ,hr]at hid;exact absurd hid List.not_mem_nil)
   rw[e]
   exact⟨rfl,fun id hid=>by rw[ZgJ,hr]at hid;exact absurd hid List.not_mem_nil⟩
  |1,hm=>
   cases hm
   refine⟨?_,fun id hid=> ?_⟩
   ·show some (SM.cell [.ref (X.length+4) 0 (met.length+1) none] true)=some (SM.cell [.ref (X.length+4) 0 (met++ [s]).length none] true)
    rw[List.length_append];rfl
   ·have h:id=2:=by simpa[ZgJ,rchL,ZcZ]using hid
    show id<3
    omega
  |2,hm=>
   cases hm
   exact⟨hk,fun id hid=>absurd hid List.not_mem_nil⟩
  |j+3,hm=>cases hm
end Go.Proofs.YtgmjnhiakpcpbaaGreatDoor

/-
 From one piece of code to the next.
-/
import Derived.Test.YtgmjnhiakpcpbaaGreatDoorTxB
set_option linter.constructorNameAsVariable false
set_option linter.unusedSimpArgs false
set_option linter.unusedVariables false
namespace Go.Tx
open Go.Am
section
variable {P : Program} {h : Hints} {T : TypeId → TI} {tm : TM} {hp : List SM} {F : Nat}
theorem ZmR {k:Ex→TM→List SM→Prop} {n:TM→List SM→Prop} (hn:n tm hp):ZuR k n .normal tm hp:=hn
theorem Zij {id:Nat} {k:Ex→TM→List SM→Prop} (hn:k .normal tm hp):ZtF id k .normal tm hp:=hn
theorem ZoS {c:Cx} {k:Ex→TM→List SM→Prop} (hn:k .normal tm hp):wp P h T F c .skip tm hp k:=hn
variable {N : Nat} {ds : List (Option Tmp)} {o : Oper} {l : List Oper} {kk : TM → List SM → Prop} {j d dd : Nat} {w t : Bool} {V : SV}
theorem Zu3 {hp':List SM} (hg:o.guard=none) (he: ∀k,opT P h T o.op tm hp k=k V hp') (ho:o.dst=some dd) (hN:Nat.ble (dd+1) N=true) (hk:wpOps P h T N ds l ((dd,V)::tm) hp' kk):wpOps P h T N ds (o::l) tm hp kk:=by
 refine Zaf hg ?_
 rw[he]
 have hk:=Zac (c:=fun tm'=>wpOps P h T N ds l tm' hp' kk) (V:=V) (tm:=tm) ho hN hk
 exact hk
theorem Zbs {hp':List SM} (hk:wpOps P h T N ds l ((dd,V)::tm) hp' kk) (hg:o.guard=none:=by exact rfl) (he: ∀k,opT P h T o.op tm hp k=k V hp':=by exact fun _=>rfl) (ho:o.dst=some dd:=by exact rfl) (hN:Nat.ble (dd+1) N=true:=by exact rfl):wpOps P h T N ds (o::l) tm hp kk:=Zu3 hg he ho hN hk
end
theorem Zae {p q:Prop} (h:q) (k:q→p:=by
 intro h
 repeat (first|refine ZoS ?_|refine ZmR ?_|refine Zij ?_)
 first|((repeat first|with_reducible refine Zju ?_|((with_reducible refine Zo9 ?_ ?_);rfl));exact ZfJ rfl h)|exact Zju (ZfJ rfl h)|exact Zju (Zju (ZfJ rfl h))):p:=k h
theorem Zad {p q:Prop} (h:q) (k:q→p:=by
 intro h
 refine Zte ?_
 repeat (first|refine ZmR ?_|refine Zij ?_)
 exact h):p:=k h
end Go.Tx

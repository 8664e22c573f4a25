/-
 Operations one at a time, each by an equation: the goals stay small.
-/
import Derived.Test.YtdnodlkdndfplaaGreatDoorTx9
set_option linter.constructorNameAsVariable false
set_option linter.unusedSimpArgs false
set_option linter.unusedVariables false
namespace Go.Tx
open Go.Am
section
variable {P : Program} {h : Hints} {T : TypeId → TI} {N : Nat} {ds : List (Option Tmp)} {o : Oper} {l : List Oper} {tm : TM} {hp : List SM} {k : TM → List SM → Prop} {j d dd : Nat} {w t : Bool} {V : SV}
theorem Zae (hg:o.guard=some (j,w)) (hd:nth ds j=some (some d)) (ht:ZdB d tm=some (.v .b t)) (hw:t= !w) (ho:o.dst=some dd) (hN:Nat.ble (dd+1) N=true) (hk:wpOps P h T N ds l ((dd, .tup [])::tm) hp k):wpOps P h T N ds (o::l) tm hp k:=by
 simp only[wpOps,hg,hd,ht]
 refine⟨fun h=> ?_,fun _=> ?_⟩
 ·rw[hw]at h;cases w<;>cases h
 ·simp only[ZdX,ho,hN];exact hk
theorem ZcH (hg:o.guard=some (j,w)) (hd:nth ds j=some (some d)) (ht:ZdB d tm=some (.v .b t)) (hw:t=w) (hk:opT P h T o.op tm hp fun V hp'=>ZdX N o.dst V tm fun tm'=>wpOps P h T N ds l tm' hp' k):wpOps P h T N ds (o::l) tm hp k:=by
 simp only[wpOps,hg,hd,ht]
 refine⟨fun _=>hk,fun h=> ?_⟩
 rw[hw]at h;cases w<;>cases h
theorem Zbr (hg:o.guard=none) (hk:opT P h T o.op tm hp fun V hp'=>ZdX N o.dst V tm fun tm'=>wpOps P h T N ds l tm' hp' k):wpOps P h T N ds (o::l) tm hp k:=by
 simp only[wpOps,hg];exact hk
theorem ZaH {dst:Option Tmp} {c:TM→Prop} (ho:dst=some dd) (hN:Nat.ble (dd+1) N=true) (hk:c ((dd,V)::tm)):ZdX N dst V tm c:=by
 simp only[ZdX,ho,hN];exact hk
theorem Zad (hg:o.guard=none) (he: ∀k,opT P h T o.op tm hp k=k V hp) (ho:o.dst=some dd) (hN:Nat.ble (dd+1) N=true) (hk:wpOps P h T N ds l ((dd,V)::tm) hp k):wpOps P h T N ds (o::l) tm hp k:=by
 refine Zbr hg ?_
 rw[he]
 have hk:=ZaH (c:=fun tm'=>wpOps P h T N ds l tm' hp k) (V:=V) (tm:=tm) ho hN hk
 exact hk
theorem Zaf (hg:o.guard=some (j,w)) (hd:nth ds j=some (some d)) (ht:ZdB d tm=some (.v .b t)) (hw:t=w) (he: ∀k,opT P h T o.op tm hp k=k V hp) (ho:o.dst=some dd) (hN:Nat.ble (dd+1) N=true) (hk:wpOps P h T N ds l ((dd,V)::tm) hp k):wpOps P h T N ds (o::l) tm hp k:=by
 refine ZcH hg hd ht hw ?_
 rw[he]
 have hk:=ZaH (c:=fun tm'=>wpOps P h T N ds l tm' hp k) (V:=V) (tm:=tm) ho hN hk
 exact hk
theorem Za8 {C:Prop} (hg:o.guard=none) (he: ∀k,opT P h T o.op tm hp k=(C∧k V hp)) (hc:C) (ho:o.dst=some dd) (hN:Nat.ble (dd+1) N=true) (hk:wpOps P h T N ds l ((dd,V)::tm) hp k):wpOps P h T N ds (o::l) tm hp k:=by
 refine Zbr hg ?_
 rw[he]
 have hk:=ZaH (c:=fun tm'=>wpOps P h T N ds l tm' hp k) (V:=V) (tm:=tm) ho hN hk
 exact⟨hc,hk⟩
theorem ZaR {C:Prop} (hg:o.guard=some (j,w)) (hd:nth ds j=some (some d)) (ht:ZdB d tm=some (.v .b t)) (hw:t=w) (he: ∀k,opT P h T o.op tm hp k=(C∧k V hp)) (hc:C) (ho:o.dst=some dd) (hN:Nat.ble (dd+1) N=true) (hk:wpOps P h T N ds l ((dd,V)::tm) hp k):wpOps P h T N ds (o::l) tm hp k:=by
 refine ZcH hg hd ht hw ?_
 rw[he]
 have hk:=ZaH (c:=fun tm'=>wpOps P h T N ds l tm' hp k) (V:=V) (tm:=tm) ho hN hk
 exact⟨hc,hk⟩
theorem Zq8 {α:Type} {C:α→Prop} {W:α→SV} {x:α} (hg:o.guard=some (j,w)) (hd:nth ds j=some (some d)) (ht:ZdB d tm=some (.v .b t)) (hw:t=w) (he: ∀k,opT P h T o.op tm hp k= ∃x,C x∧k (W x) hp) (hc:C x) (ho:o.dst=some dd) (hN:Nat.ble (dd+1) N=true) (hk:wpOps P h T N ds l ((dd,(W x))::tm) hp k):wpOps P h T N ds (o::l) tm hp k:=by
 refine ZcH hg hd ht hw ?_
 rw[he]
 have hk:=ZaH (c:=fun tm'=>wpOps P h T N ds l tm' hp k) (V:=(W x)) (tm:=tm) ho hN hk
 exact⟨x,hc,hk⟩
theorem ZrA {α:Type} {A:Prop} {C:α→Prop} {W:α→SV} {x:α} (hg:o.guard=none) (he: ∀k,opT P h T o.op tm hp k= ∃x,A∧C x∧k (W x) hp) (ha:A) (hc:C x) (ho:o.dst=some dd) (hN:Nat.ble (dd+1) N=true) (hk:wpOps P h T N ds l ((dd,(W x))::tm) hp k):wpOps P h T N ds (o::l) tm hp k:=by
 refine Zbr hg ?_
 rw[he]
 have hk:=ZaH (c:=fun tm'=>wpOps P h T N ds l tm' hp k) (V:=(W x)) (tm:=tm) ho hN hk
 exact⟨x,ha,hc,hk⟩
theorem ZgE {α:Type} {A:Prop} {C:α→Prop} {W:α→SV} {x:α} (hg:o.guard=some (j,w)) (hd:nth ds j=some (some d)) (ht:ZdB d tm=some (.v .b t)) (hw:t=w) (he: ∀k,opT P h T o.op tm hp k= ∃x,A∧C x∧k (W x) hp) (ha:A) (hc:C x) (ho:o.dst=some dd) (hN:Nat.ble (dd+1) N=true) (hk:wpOps P h T N ds l ((dd,(W x))::tm) hp k):wpOps P h T N ds (o::l) tm hp k:=by
 refine ZcH hg hd ht hw ?_
 rw[he]
 have hk:=ZaH (c:=fun tm'=>wpOps P h T N ds l tm' hp k) (V:=(W x)) (tm:=tm) ho hN hk
 exact⟨x,ha,hc,hk⟩
theorem ZaF {c a b:Operand} (hg:o.guard=none) (hop:o.op= .pick c a b) (hc:evS tm c=some (.v .b t)) (ht:t=true) (ha:evS tm a=some V) (ho:o.dst=some dd) (hN:Nat.ble (dd+1) N=true) (hk:wpOps P h T N ds l ((dd,V)::tm) hp k):wpOps P h T N ds (o::l) tm hp k:=by
 refine Zbr hg ?_
 rw[hop]
 have hk:=ZaH (c:=fun tm'=>wpOps P h T N ds l tm' hp k) (V:=V) (tm:=tm) ho hN hk
 subst ht
 simp[opT,hc,ha]
 exact hk
theorem Zax {c a b:Operand} (hg:o.guard=none) (hop:o.op= .pick c a b) (hc:evS tm c=some (.v .b t)) (ht:t=false) (ha:evS tm b=some V) (ho:o.dst=some dd) (hN:Nat.ble (dd+1) N=true) (hk:wpOps P h T N ds l ((dd,V)::tm) hp k):wpOps P h T N ds (o::l) tm hp k:=by
 refine Zbr hg ?_
 rw[hop]
 have hk:=ZaH (c:=fun tm'=>wpOps P h T N ds l tm' hp k) (V:=V) (tm:=tm) ho hN hk
 subst ht
 simp[opT,hc,ha]
 exact hk
theorem Zam (hg:o.guard=some (j,w)) (hd:nth ds j=some (some d)) (ht:ZdB d tm=some (.tup [])) (ho:o.dst=some dd) (hN:Nat.ble (dd+1) N=true) (hk:wpOps P h T N ds l ((dd, .tup [])::tm) hp k):wpOps P h T N ds (o::l) tm hp k:=by
 simp only[wpOps,hg,hd,ht,ZdX,ho,hN]
 exact hk
theorem Zbv {c a b:Operand} {t':Bool} (hg:o.guard=some (j,w)) (hd:nth ds j=some (some d)) (htg:ZdB d tm=some (.v .b t')) (hw:t'=w) (hop:o.op= .pick c a b) (hc:evS tm c=some (.v .b t)) (ht:t=true) (ha:evS tm a=some V) (ho:o.dst=some dd) (hN:Nat.ble (dd+1) N=true) (hk:wpOps P h T N ds l ((dd,V)::tm) hp k):wpOps P h T N ds (o::l) tm hp k:=by
 refine ZcH hg hd htg hw ?_
 rw[hop]
 have hk:=ZaH (c:=fun tm'=>wpOps P h T N ds l tm' hp k) (V:=V) (tm:=tm) ho hN hk
 subst ht
 simp[opT,hc,ha]
 exact hk
theorem ZcG {c a b:Operand} {t':Bool} (hg:o.guard=some (j,w)) (hd:nth ds j=some (some d)) (htg:ZdB d tm=some (.v .b t')) (hw:t'=w) (hop:o.op= .pick c a b) (hc:evS tm c=some (.v .b t)) (ht:t=false) (ha:evS tm b=some V) (ho:o.dst=some dd) (hN:Nat.ble (dd+1) N=true) (hk:wpOps P h T N ds l ((dd,V)::tm) hp k):wpOps P h T N ds (o::l) tm hp k:=by
 refine ZcH hg hd htg hw ?_
 rw[hop]
 have hk:=ZaH (c:=fun tm'=>wpOps P h T N ds l tm' hp k) (V:=V) (tm:=tm) ho hN hk
 subst ht
 simp[opT,hc,ha]
 exact hk
theorem Zac {F:Nat} {c:Cx} {id:Nat} {b:Code} {k:Ex→TM→List SM→Prop} (hk:h.keepB c.fid id=none) (hb:wp P h T F c b tm hp (ZtL id k)):wp P h T F c (.block id b) tm hp k:=by
 simp only[wp,hk];exact hb
theorem Zag (hk:k tm hp):wpOps P h T N ds [] tm hp k:=hk
theorem Zab {F:Nat} {c:Cx} {a b:Code} {k:Ex→TM→List SM→Prop} (hk:wp P h T F c a tm hp (ZtT k fun tm' hp'=>wp P h T F c b tm' hp' k)):wp P h T F c (.seq a b) tm hp k:=hk
theorem Zaa {F:Nat} {c:Cx} {id:Nat} {ops:Array Oper} {dr:Bool} {k:Ex→TM→List SM→Prop} (hl:h.light c.fid id=[]) (hk:wpOps P h T c.N (Zth ops.toList) ops.toList tm hp fun tm' hp'=>k .normal tm' hp') (hπ:h.perm c.fid id=[]:=by rfl):wp P h T F c (.region id ops dr) tm hp k:=by
 simp only[wp,wpR,hl,hπ];exact hk
end
end Go.Tx

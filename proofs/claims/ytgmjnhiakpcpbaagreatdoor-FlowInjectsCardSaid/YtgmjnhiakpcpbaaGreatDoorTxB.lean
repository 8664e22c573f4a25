/-
 Operations one at a time, each by an equation: the goals stay small.
-/
import Derived.Test.YtgmjnhiakpcpbaaGreatDoorTx9
set_option linter.constructorNameAsVariable false
set_option linter.unusedSimpArgs false
set_option linter.unusedVariables false
namespace Go.Tx
open Go.Am
section
variable {P : Program} {h : Hints} {T : TypeId → TI} {N : Nat} {ds : List (Option Tmp)} {o : Oper} {l : List Oper} {tm : TM} {hp : List SM} {k : TM → List SM → Prop} {j d dd : Nat} {w t : Bool} {V : SV}
theorem ZqC (hg:o.guard=some (j,w)) (hd:nth ds j=some (some d)) (ht:Zcp d tm=some (.v .b t)) (hw:t= !w) (ho:o.dst=some dd) (hN:Nat.ble (dd+1) N=true) (hk:wpOps P h T N ds l ((dd, .tup [])::tm) hp k):wpOps P h T N ds (o::l) tm hp k:=by
 simp only[wpOps,hg,hd,ht]
 refine⟨fun h=> ?_,fun _=> ?_⟩
 ·rw[hw]at h;cases w<;>cases h
 ·simp only[Zes,ho,hN];exact hk
theorem Zao (hg:o.guard=some (j,w)) (hd:nth ds j=some (some d)) (ht:Zcp d tm=some (.v .b t)) (hw:t=w) (hk:opT P h T o.op tm hp fun V hp'=>Zes N o.dst V tm fun tm'=>wpOps P h T N ds l tm' hp' k):wpOps P h T N ds (o::l) tm hp k:=by
 simp only[wpOps,hg,hd,ht]
 refine⟨fun _=>hk,fun h=> ?_⟩
 rw[hw]at h;cases w<;>cases h
theorem Zaf (hg:o.guard=none) (hk:opT P h T o.op tm hp fun V hp'=>Zes N o.dst V tm fun tm'=>wpOps P h T N ds l tm' hp' k):wpOps P h T N ds (o::l) tm hp k:=by
 simp only[wpOps,hg];exact hk
theorem Zac {dst:Option Tmp} {c:TM→Prop} (ho:dst=some dd) (hN:Nat.ble (dd+1) N=true) (hk:c ((dd,V)::tm)):Zes N dst V tm c:=by
 simp only[Zes,ho,hN];exact hk
theorem ZuV (hg:o.guard=none) (he: ∀k,opT P h T o.op tm hp k=k V hp) (ho:o.dst=some dd) (hN:Nat.ble (dd+1) N=true) (hk:wpOps P h T N ds l ((dd,V)::tm) hp k):wpOps P h T N ds (o::l) tm hp k:=by
 refine Zaf hg ?_
 rw[he]
 have hk:=Zac (c:=fun tm'=>wpOps P h T N ds l tm' hp k) (V:=V) (tm:=tm) ho hN hk
 exact hk
theorem Ztx (hg:o.guard=some (j,w)) (hd:nth ds j=some (some d)) (ht:Zcp d tm=some (.v .b t)) (hw:t=w) (he: ∀k,opT P h T o.op tm hp k=k V hp) (ho:o.dst=some dd) (hN:Nat.ble (dd+1) N=true) (hk:wpOps P h T N ds l ((dd,V)::tm) hp k):wpOps P h T N ds (o::l) tm hp k:=by
 refine Zao hg hd ht hw ?_
 rw[he]
 have hk:=Zac (c:=fun tm'=>wpOps P h T N ds l tm' hp k) (V:=V) (tm:=tm) ho hN hk
 exact hk
theorem Zal {C:Prop} (hg:o.guard=none) (he: ∀k,opT P h T o.op tm hp k=(C∧k V hp)) (hc:C) (ho:o.dst=some dd) (hN:Nat.ble (dd+1) N=true) (hk:wpOps P h T N ds l ((dd,V)::tm) hp k):wpOps P h T N ds (o::l) tm hp k:=by
 refine Zaf hg ?_
 rw[he]
 have hk:=Zac (c:=fun tm'=>wpOps P h T N ds l tm' hp k) (V:=V) (tm:=tm) ho hN hk
 exact⟨hc,hk⟩
theorem Zai {C:Prop} (hg:o.guard=some (j,w)) (hd:nth ds j=some (some d)) (ht:Zcp d tm=some (.v .b t)) (hw:t=w) (he: ∀k,opT P h T o.op tm hp k=(C∧k V hp)) (hc:C) (ho:o.dst=some dd) (hN:Nat.ble (dd+1) N=true) (hk:wpOps P h T N ds l ((dd,V)::tm) hp k):wpOps P h T N ds (o::l) tm hp k:=by
 refine Zao hg hd ht hw ?_
 rw[he]
 have hk:=Zac (c:=fun tm'=>wpOps P h T N ds l tm' hp k) (V:=V) (tm:=tm) ho hN hk
 exact⟨hc,hk⟩
theorem ZaY {α:Type} {A:Prop} {C:α→Prop} {W:α→SV} {x:α} (hg:o.guard=none) (he: ∀k,opT P h T o.op tm hp k= ∃x,A∧C x∧k (W x) hp) (ha:A) (hc:C x) (ho:o.dst=some dd) (hN:Nat.ble (dd+1) N=true) (hk:wpOps P h T N ds l ((dd,(W x))::tm) hp k):wpOps P h T N ds (o::l) tm hp k:=by
 refine Zaf hg ?_
 rw[he]
 have hk:=Zac (c:=fun tm'=>wpOps P h T N ds l tm' hp k) (V:=(W x)) (tm:=tm) ho hN hk
 exact⟨x,ha,hc,hk⟩
theorem Zbn {α:Type} {A:Prop} {C:α→Prop} {W:α→SV} {x:α} (hg:o.guard=some (j,w)) (hd:nth ds j=some (some d)) (ht:Zcp d tm=some (.v .b t)) (hw:t=w) (he: ∀k,opT P h T o.op tm hp k= ∃x,A∧C x∧k (W x) hp) (ha:A) (hc:C x) (ho:o.dst=some dd) (hN:Nat.ble (dd+1) N=true) (hk:wpOps P h T N ds l ((dd,(W x))::tm) hp k):wpOps P h T N ds (o::l) tm hp k:=by
 refine Zao hg hd ht hw ?_
 rw[he]
 have hk:=Zac (c:=fun tm'=>wpOps P h T N ds l tm' hp k) (V:=(W x)) (tm:=tm) ho hN hk
 exact⟨x,ha,hc,hk⟩
theorem Zuk {c a b:Operand} (hg:o.guard=none) (hop:o.op= .pick c a b) (hc:evS tm c=some (.v .b t)) (ht:t=true) (ha:evS tm a=some V) (ho:o.dst=some dd) (hN:Nat.ble (dd+1) N=true) (hk:wpOps P h T N ds l ((dd,V)::tm) hp k):wpOps P h T N ds (o::l) tm hp k:=by
 refine Zaf hg ?_
 rw[hop]
 have hk:=Zac (c:=fun tm'=>wpOps P h T N ds l tm' hp k) (V:=V) (tm:=tm) ho hN hk
 subst ht
 simp[opT,hc,ha]
 exact hk
theorem ZtL {c a b:Operand} (hg:o.guard=none) (hop:o.op= .pick c a b) (hc:evS tm c=some (.v .b t)) (ht:t=false) (ha:evS tm b=some V) (ho:o.dst=some dd) (hN:Nat.ble (dd+1) N=true) (hk:wpOps P h T N ds l ((dd,V)::tm) hp k):wpOps P h T N ds (o::l) tm hp k:=by
 refine Zaf hg ?_
 rw[hop]
 have hk:=Zac (c:=fun tm'=>wpOps P h T N ds l tm' hp k) (V:=V) (tm:=tm) ho hN hk
 subst ht
 simp[opT,hc,ha]
 exact hk
theorem Zto {F:Nat} {c:Cx} {b:Code} {tm:TM} {hp:List SM} {k:Ex→TM→List SM→Prop} (hp':List SM) (he:hp=hp') (hk:wp P h T F c b tm hp' k):wp P h T F c b tm hp k:=he▸hk
theorem ZoX (hg:o.guard=some (j,w)) (hd:nth ds j=some (some d)) (ht:Zcp d tm=some (.tup [])) (ho:o.dst=some dd) (hN:Nat.ble (dd+1) N=true) (hk:wpOps P h T N ds l ((dd, .tup [])::tm) hp k):wpOps P h T N ds (o::l) tm hp k:=by
 simp only[wpOps,hg,hd,ht,Zes,ho,hN]
 exact hk
theorem Zbw {c a b:Operand} {t':Bool} (hg:o.guard=some (j,w)) (hd:nth ds j=some (some d)) (htg:Zcp d tm=some (.v .b t')) (hw:t'=w) (hop:o.op= .pick c a b) (hc:evS tm c=some (.v .b t)) (ht:t=true) (ha:evS tm a=some V) (ho:o.dst=some dd) (hN:Nat.ble (dd+1) N=true) (hk:wpOps P h T N ds l ((dd,V)::tm) hp k):wpOps P h T N ds (o::l) tm hp k:=by
 refine Zao hg hd htg hw ?_
 rw[hop]
 have hk:=Zac (c:=fun tm'=>wpOps P h T N ds l tm' hp k) (V:=V) (tm:=tm) ho hN hk
 subst ht
 simp[opT,hc,ha]
 exact hk
theorem Zbq {c a b:Operand} {t':Bool} (hg:o.guard=some (j,w)) (hd:nth ds j=some (some d)) (htg:Zcp d tm=some (.v .b t')) (hw:t'=w) (hop:o.op= .pick c a b) (hc:evS tm c=some (.v .b t)) (ht:t=false) (ha:evS tm b=some V) (ho:o.dst=some dd) (hN:Nat.ble (dd+1) N=true) (hk:wpOps P h T N ds l ((dd,V)::tm) hp k):wpOps P h T N ds (o::l) tm hp k:=by
 refine Zao hg hd htg hw ?_
 rw[hop]
 have hk:=Zac (c:=fun tm'=>wpOps P h T N ds l tm' hp k) (V:=V) (tm:=tm) ho hN hk
 subst ht
 simp[opT,hc,ha]
 exact hk
theorem Zo9 {F:Nat} {c:Cx} {id:Nat} {b:Code} {k:Ex→TM→List SM→Prop} (hk:h.keepB c.fid id=none) (hb:wp P h T F c b tm hp (ZtF id k)):wp P h T F c (.block id b) tm hp k:=by
 simp only[wp,hk];exact hb
theorem Zte (hk:k tm hp):wpOps P h T N ds [] tm hp k:=hk
theorem Zju {F:Nat} {c:Cx} {a b:Code} {k:Ex→TM→List SM→Prop} (hk:wp P h T F c a tm hp (ZuR k fun tm' hp'=>wp P h T F c b tm' hp' k)):wp P h T F c (.seq a b) tm hp k:=hk
theorem ZfJ {F:Nat} {c:Cx} {id:Nat} {ops:Array Oper} {dr:Bool} {k:Ex→TM→List SM→Prop} (hl:h.light c.fid id=[]) (hk:wpOps P h T c.N (Zub ops.toList) ops.toList tm hp fun tm' hp'=>k .normal tm' hp') (hπ:h.perm c.fid id=[]:=by rfl):wp P h T F c (.region id ops dr) tm hp k:=by
 simp only[wp,wpR,hl,hπ];exact hk
end
section
variable {P : Program} {h : Hints} {T : TypeId → TI} {N : Nat} {ds : List (Option Tmp)} {o : Oper} {l : List Oper} {tm : TM} {hp : List SM} {k : TM → List SM → Prop} {j d dd : Nat} {w w' t : Bool} {V : SV}
theorem Zab (hk:wpOps P h T N ds l ((dd,V)::tm) hp k) (hg:o.guard=none:=by exact rfl) (he: ∀k,opT P h T o.op tm hp k=k V hp:=by exact fun _=>rfl) (ho:o.dst=some dd:=by exact rfl) (hN:Nat.ble (dd+1) N=true:=by exact rfl):wpOps P h T N ds (o::l) tm hp k:=ZuV hg he ho hN hk
theorem Zaa (hw:t=w) (hk:wpOps P h T N ds l ((dd,V)::tm) hp k) (hg:o.guard=some (j,w):=by exact rfl) (hd:nth ds j=some (some d):=by exact rfl) (ht:Zcp d tm=some (.v .b t):=by exact rfl) (he: ∀k,opT P h T o.op tm hp k=k V hp:=by exact fun _=>rfl) (ho:o.dst=some dd:=by exact rfl) (hN:Nat.ble (dd+1) N=true:=by exact rfl):wpOps P h T N ds (o::l) tm hp k:=Ztx hg hd ht hw he ho hN hk
theorem Zag (hw:t=w') (hk:wpOps P h T N ds l ((dd, .tup [])::tm) hp k) (hg:o.guard=some (j,w):=by exact rfl) (hd:nth ds j=some (some d):=by exact rfl) (ht:Zcp d tm=some (.v .b t):=by exact rfl) (hn:w'= !w:=by exact rfl) (ho:o.dst=some dd:=by exact rfl) (hN:Nat.ble (dd+1) N=true:=by exact rfl):wpOps P h T N ds (o::l) tm hp k:=ZqC hg hd ht (hw.trans hn) ho hN hk
theorem Zgh (hk:wpOps P h T N ds l ((dd, .tup [])::tm) hp k) (hg:o.guard=some (j,w):=by exact rfl) (hd:nth ds j=some (some d):=by exact rfl) (ht:Zcp d tm=some (.tup []):=by exact rfl) (ho:o.dst=some dd:=by exact rfl) (hN:Nat.ble (dd+1) N=true:=by exact rfl):wpOps P h T N ds (o::l) tm hp k:=ZoX hg hd ht ho hN hk
theorem Zaq {c a b:Operand} (ht:t=true) (hk:wpOps P h T N ds l ((dd,V)::tm) hp k) (hg:o.guard=none:=by exact rfl) (hop:o.op= .pick c a b:=by exact rfl) (hc:evS tm c=some (.v .b t):=by exact rfl) (ha:evS tm a=some V:=by exact rfl) (ho:o.dst=some dd:=by exact rfl) (hN:Nat.ble (dd+1) N=true:=by exact rfl):wpOps P h T N ds (o::l) tm hp k:=Zuk hg hop hc ht ha ho hN hk
theorem Zap {c a b:Operand} (ht:t=false) (hk:wpOps P h T N ds l ((dd,V)::tm) hp k) (hg:o.guard=none:=by exact rfl) (hop:o.op= .pick c a b:=by exact rfl) (hc:evS tm c=some (.v .b t):=by exact rfl) (ha:evS tm b=some V:=by exact rfl) (ho:o.dst=some dd:=by exact rfl) (hN:Nat.ble (dd+1) N=true:=by exact rfl):wpOps P h T N ds (o::l) tm hp k:=ZtL hg hop hc ht ha ho hN hk
theorem brT {s t:Bool} {A B:Prop} (h:s=true) (k:A) (e:s=true→t=true:=by first|with_reducible exact fun h=>h|exact fun _=>rfl|exact fun h=>h):(t=true→A)∧(t=false→B):=⟨fun _=>k,fun h'=>by rw[e h]at h';cases h'⟩
theorem brF {s t:Bool} {A B:Prop} (h:s=false) (k:B) (e:s=false→t=false:=by first|with_reducible exact fun h=>h|exact fun _=>rfl|exact fun h=>h):(t=true→A)∧(t=false→B):=⟨fun h'=>(by rw[e h]at h';cases h'),fun _=>k⟩
end
end Go.Tx

/-
 Operations one at a time, each by an equation: the goals stay small.
-/
import Derived.Test.YtgngdcpglnfkeaaDoorTx9
set_option linter.constructorNameAsVariable false
set_option linter.unusedSimpArgs false
set_option linter.unusedVariables false
namespace Go.Tx
open Go.Am
section
variable {P : Program} {h : Hints} {T : TypeId → TI} {N : Nat} {ds : List (Option Tmp)} {o : Oper} {l : List Oper} {tm : TM} {hp : List SM} {k : TM → List SM → Prop} {j d dd : Nat} {w t : Bool} {V : SV}
theorem ZrH (hg:o.guard=some (j,w)) (hd:nth ds j=some (some d)) (ht:Zc1 d tm=some (.v .b t)) (hw:t= !w) (ho:o.dst=some dd) (hN:Nat.ble (dd+1) N=true) (hk:wpOps P h T N ds l ((dd, .tup [])::tm) hp k):wpOps P h T N ds (o::l) tm hp k:=by
 simp only[wpOps,hg,hd,ht]
 refine⟨fun h=> ?_,fun _=> ?_⟩
 ·rw[hw]at h;cases w<;>cases h
 ·simp only[ZeW,ho,hN];exact hk
theorem Zam (hg:o.guard=some (j,w)) (hd:nth ds j=some (some d)) (ht:Zc1 d tm=some (.v .b t)) (hw:t=w) (hk:opT P h T o.op tm hp fun V hp'=>ZeW N o.dst V tm fun tm'=>wpOps P h T N ds l tm' hp' k):wpOps P h T N ds (o::l) tm hp k:=by
 simp only[wpOps,hg,hd,ht]
 refine⟨fun _=>hk,fun h=> ?_⟩
 rw[hw]at h;cases w<;>cases h
theorem Zac (hg:o.guard=none) (hk:opT P h T o.op tm hp fun V hp'=>ZeW N o.dst V tm fun tm'=>wpOps P h T N ds l tm' hp' k):wpOps P h T N ds (o::l) tm hp k:=by
 simp only[wpOps,hg];exact hk
theorem Zaa {dst:Option Tmp} {c:TM→Prop} (ho:dst=some dd) (hN:Nat.ble (dd+1) N=true) (hk:c ((dd,V)::tm)):ZeW N dst V tm c:=by
 simp only[ZeW,ho,hN];exact hk
theorem Zv9 (hg:o.guard=none) (he: ∀k,opT P h T o.op tm hp k=k V hp) (ho:o.dst=some dd) (hN:Nat.ble (dd+1) N=true) (hk:wpOps P h T N ds l ((dd,V)::tm) hp k):wpOps P h T N ds (o::l) tm hp k:=by
 refine Zac hg ?_
 rw[he]
 have hk:=Zaa (c:=fun tm'=>wpOps P h T N ds l tm' hp k) (V:=V) (tm:=tm) ho hN hk
 exact hk
theorem ZuG (hg:o.guard=some (j,w)) (hd:nth ds j=some (some d)) (ht:Zc1 d tm=some (.v .b t)) (hw:t=w) (he: ∀k,opT P h T o.op tm hp k=k V hp) (ho:o.dst=some dd) (hN:Nat.ble (dd+1) N=true) (hk:wpOps P h T N ds l ((dd,V)::tm) hp k):wpOps P h T N ds (o::l) tm hp k:=by
 refine Zam hg hd ht hw ?_
 rw[he]
 have hk:=Zaa (c:=fun tm'=>wpOps P h T N ds l tm' hp k) (V:=V) (tm:=tm) ho hN hk
 exact hk
theorem Zag {C:Prop} (hg:o.guard=none) (he: ∀k,opT P h T o.op tm hp k=(C∧k V hp)) (hc:C) (ho:o.dst=some dd) (hN:Nat.ble (dd+1) N=true) (hk:wpOps P h T N ds l ((dd,V)::tm) hp k):wpOps P h T N ds (o::l) tm hp k:=by
 refine Zac hg ?_
 rw[he]
 have hk:=Zaa (c:=fun tm'=>wpOps P h T N ds l tm' hp k) (V:=V) (tm:=tm) ho hN hk
 exact⟨hc,hk⟩
theorem Zak {C:Prop} (hg:o.guard=some (j,w)) (hd:nth ds j=some (some d)) (ht:Zc1 d tm=some (.v .b t)) (hw:t=w) (he: ∀k,opT P h T o.op tm hp k=(C∧k V hp)) (hc:C) (ho:o.dst=some dd) (hN:Nat.ble (dd+1) N=true) (hk:wpOps P h T N ds l ((dd,V)::tm) hp k):wpOps P h T N ds (o::l) tm hp k:=by
 refine Zam hg hd ht hw ?_
 rw[he]
 have hk:=Zaa (c:=fun tm'=>wpOps P h T N ds l tm' hp k) (V:=V) (tm:=tm) ho hN hk
 exact⟨hc,hk⟩
theorem ZuK {α:Type} {C:α→Prop} {W:α→SV} {x:α} (hg:o.guard=some (j,w)) (hd:nth ds j=some (some d)) (ht:Zc1 d tm=some (.v .b t)) (hw:t=w) (he: ∀k,opT P h T o.op tm hp k= ∃x,C x∧k (W x) hp) (hc:C x) (ho:o.dst=some dd) (hN:Nat.ble (dd+1) N=true) (hk:wpOps P h T N ds l ((dd,(W x))::tm) hp k):wpOps P h T N ds (o::l) tm hp k:=by
 refine Zam hg hd ht hw ?_
 rw[he]
 have hk:=Zaa (c:=fun tm'=>wpOps P h T N ds l tm' hp k) (V:=(W x)) (tm:=tm) ho hN hk
 exact⟨x,hc,hk⟩
theorem Zbb {α:Type} {A:Prop} {C:α→Prop} {W:α→SV} {x:α} (hg:o.guard=none) (he: ∀k,opT P h T o.op tm hp k= ∃x,A∧C x∧k (W x) hp) (ha:A) (hc:C x) (ho:o.dst=some dd) (hN:Nat.ble (dd+1) N=true) (hk:wpOps P h T N ds l ((dd,(W x))::tm) hp k):wpOps P h T N ds (o::l) tm hp k:=by
 refine Zac hg ?_
 rw[he]
 have hk:=Zaa (c:=fun tm'=>wpOps P h T N ds l tm' hp k) (V:=(W x)) (tm:=tm) ho hN hk
 exact⟨x,ha,hc,hk⟩
theorem ZeR {α:Type} {A:Prop} {C:α→Prop} {W:α→SV} {x:α} (hg:o.guard=some (j,w)) (hd:nth ds j=some (some d)) (ht:Zc1 d tm=some (.v .b t)) (hw:t=w) (he: ∀k,opT P h T o.op tm hp k= ∃x,A∧C x∧k (W x) hp) (ha:A) (hc:C x) (ho:o.dst=some dd) (hN:Nat.ble (dd+1) N=true) (hk:wpOps P h T N ds l ((dd,(W x))::tm) hp k):wpOps P h T N ds (o::l) tm hp k:=by
 refine Zam hg hd ht hw ?_
 rw[he]
 have hk:=Zaa (c:=fun tm'=>wpOps P h T N ds l tm' hp k) (V:=(W x)) (tm:=tm) ho hN hk
 exact⟨x,ha,hc,hk⟩
theorem Zva {c a b:Operand} (hg:o.guard=none) (hop:o.op= .pick c a b) (hc:evS tm c=some (.v .b t)) (ht:t=true) (ha:evS tm a=some V) (ho:o.dst=some dd) (hN:Nat.ble (dd+1) N=true) (hk:wpOps P h T N ds l ((dd,V)::tm) hp k):wpOps P h T N ds (o::l) tm hp k:=by
 refine Zac hg ?_
 rw[hop]
 have hk:=Zaa (c:=fun tm'=>wpOps P h T N ds l tm' hp k) (V:=V) (tm:=tm) ho hN hk
 subst ht
 simp[opT,hc,ha]
 exact hk
theorem Zuy {c a b:Operand} (hg:o.guard=none) (hop:o.op= .pick c a b) (hc:evS tm c=some (.v .b t)) (ht:t=false) (ha:evS tm b=some V) (ho:o.dst=some dd) (hN:Nat.ble (dd+1) N=true) (hk:wpOps P h T N ds l ((dd,V)::tm) hp k):wpOps P h T N ds (o::l) tm hp k:=by
 refine Zac hg ?_
 rw[hop]
 have hk:=Zaa (c:=fun tm'=>wpOps P h T N ds l tm' hp k) (V:=V) (tm:=tm) ho hN hk
 subst ht
 simp[opT,hc,ha]
 exact hk
theorem Ztl {F:Nat} {c:Cx} {b:Code} {tm:TM} {hp:List SM} {k:Ex→TM→List SM→Prop} (hp':List SM) (he:hp=hp') (hk:wp P h T F c b tm hp' k):wp P h T F c b tm hp k:=he▸hk
theorem Zpv (hg:o.guard=some (j,w)) (hd:nth ds j=some (some d)) (ht:Zc1 d tm=some (.tup [])) (ho:o.dst=some dd) (hN:Nat.ble (dd+1) N=true) (hk:wpOps P h T N ds l ((dd, .tup [])::tm) hp k):wpOps P h T N ds (o::l) tm hp k:=by
 simp only[wpOps,hg,hd,ht,ZeW,ho,hN]
 exact hk
theorem Zcu {c a b:Operand} {t':Bool} (hg:o.guard=some (j,w)) (hd:nth ds j=some (some d)) (htg:Zc1 d tm=some (.v .b t')) (hw:t'=w) (hop:o.op= .pick c a b) (hc:evS tm c=some (.v .b t)) (ht:t=true) (ha:evS tm a=some V) (ho:o.dst=some dd) (hN:Nat.ble (dd+1) N=true) (hk:wpOps P h T N ds l ((dd,V)::tm) hp k):wpOps P h T N ds (o::l) tm hp k:=by
 refine Zam hg hd htg hw ?_
 rw[hop]
 have hk:=Zaa (c:=fun tm'=>wpOps P h T N ds l tm' hp k) (V:=V) (tm:=tm) ho hN hk
 subst ht
 simp[opT,hc,ha]
 exact hk
theorem Zdm {c a b:Operand} {t':Bool} (hg:o.guard=some (j,w)) (hd:nth ds j=some (some d)) (htg:Zc1 d tm=some (.v .b t')) (hw:t'=w) (hop:o.op= .pick c a b) (hc:evS tm c=some (.v .b t)) (ht:t=false) (ha:evS tm b=some V) (ho:o.dst=some dd) (hN:Nat.ble (dd+1) N=true) (hk:wpOps P h T N ds l ((dd,V)::tm) hp k):wpOps P h T N ds (o::l) tm hp k:=by
 refine Zam hg hd htg hw ?_
 rw[hop]
 have hk:=Zaa (c:=fun tm'=>wpOps P h T N ds l tm' hp k) (V:=V) (tm:=tm) ho hN hk
 subst ht
 simp[opT,hc,ha]
 exact hk
theorem ZoY {F:Nat} {c:Cx} {id:Nat} {b:Code} {k:Ex→TM→List SM→Prop} (hk:h.keepB c.fid id=none) (hb:wp P h T F c b tm hp (ZuV id k)):wp P h T F c (.block id b) tm hp k:=by
 simp only[wp,hk];exact hb
theorem Zt4 (hk:k tm hp):wpOps P h T N ds [] tm hp k:=hk
theorem Zj0 {F:Nat} {c:Cx} {a b:Code} {k:Ex→TM→List SM→Prop} (hk:wp P h T F c a tm hp (Zvs k fun tm' hp'=>wp P h T F c b tm' hp' k)):wp P h T F c (.seq a b) tm hp k:=hk
theorem Zgz {F:Nat} {c:Cx} {id:Nat} {ops:Array Oper} {dr:Bool} {k:Ex→TM→List SM→Prop} (hl:h.light c.fid id=[]) (hk:wpOps P h T c.N (Zve ops.toList) ops.toList tm hp fun tm' hp'=>k .normal tm' hp') (hπ:h.perm c.fid id=[]:=by rfl):wp P h T F c (.region id ops dr) tm hp k:=by
 simp only[wp,wpR,hl,hπ];exact hk
end
section
variable {P : Program} {h : Hints} {T : TypeId → TI} {N : Nat} {ds : List (Option Tmp)} {o : Oper} {l : List Oper} {tm : TM} {hp : List SM} {k : TM → List SM → Prop} {j d dd : Nat} {w w' t : Bool} {V : SV}
theorem Zab (hk:wpOps P h T N ds l ((dd,V)::tm) hp k) (hg:o.guard=none:=by exact rfl) (he: ∀k,opT P h T o.op tm hp k=k V hp:=by exact fun _=>rfl) (ho:o.dst=some dd:=by exact rfl) (hN:Nat.ble (dd+1) N=true:=by exact rfl):wpOps P h T N ds (o::l) tm hp k:=Zv9 hg he ho hN hk
theorem Zad (hw:t=w) (hk:wpOps P h T N ds l ((dd,V)::tm) hp k) (hg:o.guard=some (j,w):=by exact rfl) (hd:nth ds j=some (some d):=by exact rfl) (ht:Zc1 d tm=some (.v .b t):=by exact rfl) (he: ∀k,opT P h T o.op tm hp k=k V hp:=by exact fun _=>rfl) (ho:o.dst=some dd:=by exact rfl) (hN:Nat.ble (dd+1) N=true:=by exact rfl):wpOps P h T N ds (o::l) tm hp k:=ZuG hg hd ht hw he ho hN hk
theorem Zaj (hw:t=w') (hk:wpOps P h T N ds l ((dd, .tup [])::tm) hp k) (hg:o.guard=some (j,w):=by exact rfl) (hd:nth ds j=some (some d):=by exact rfl) (ht:Zc1 d tm=some (.v .b t):=by exact rfl) (hn:w'= !w:=by exact rfl) (ho:o.dst=some dd:=by exact rfl) (hN:Nat.ble (dd+1) N=true:=by exact rfl):wpOps P h T N ds (o::l) tm hp k:=ZrH hg hd ht (hw.trans hn) ho hN hk
theorem Zum (hk:wpOps P h T N ds l ((dd, .tup [])::tm) hp k) (hg:o.guard=some (j,w):=by exact rfl) (hd:nth ds j=some (some d):=by exact rfl) (ht:Zc1 d tm=some (.tup []):=by exact rfl) (ho:o.dst=some dd:=by exact rfl) (hN:Nat.ble (dd+1) N=true:=by exact rfl):wpOps P h T N ds (o::l) tm hp k:=Zpv hg hd ht ho hN hk
theorem Zat {c a b:Operand} (ht:t=true) (hk:wpOps P h T N ds l ((dd,V)::tm) hp k) (hg:o.guard=none:=by exact rfl) (hop:o.op= .pick c a b:=by exact rfl) (hc:evS tm c=some (.v .b t):=by exact rfl) (ha:evS tm a=some V:=by exact rfl) (ho:o.dst=some dd:=by exact rfl) (hN:Nat.ble (dd+1) N=true:=by exact rfl):wpOps P h T N ds (o::l) tm hp k:=Zva hg hop hc ht ha ho hN hk
theorem Zas {c a b:Operand} (ht:t=false) (hk:wpOps P h T N ds l ((dd,V)::tm) hp k) (hg:o.guard=none:=by exact rfl) (hop:o.op= .pick c a b:=by exact rfl) (hc:evS tm c=some (.v .b t):=by exact rfl) (ha:evS tm b=some V:=by exact rfl) (ho:o.dst=some dd:=by exact rfl) (hN:Nat.ble (dd+1) N=true:=by exact rfl):wpOps P h T N ds (o::l) tm hp k:=Zuy hg hop hc ht ha ho hN hk
theorem brT {s t:Bool} {A B:Prop} (h:s=true) (k:A) (e:s=true→t=true:=by first|with_reducible exact fun h=>h|exact fun _=>rfl|exact fun h=>h):(t=true→A)∧(t=false→B):=⟨fun _=>k,fun h'=>by rw[e h]at h';cases h'⟩
theorem brF {s t:Bool} {A B:Prop} (h:s=false) (k:B) (e:s=false→t=false:=by first|with_reducible exact fun h=>h|exact fun _=>rfl|exact fun h=>h):(t=true→A)∧(t=false→B):=⟨fun h'=>(by rw[e h]at h';cases h'),fun _=>k⟩
end
end Go.Tx

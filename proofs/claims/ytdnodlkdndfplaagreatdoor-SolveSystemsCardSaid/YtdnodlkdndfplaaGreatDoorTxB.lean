/-
 Operations one at a time, each by an equation: the goals stay small.
-/
import Derived.Test.YtdnodlkdndfplaaGreatDoorTx9
set_option linter.constructorNameAsVariable false
set_option linter.unusedSimpArgs false
set_option linter.unusedVariables false
namespace Go.Tx
open Go.Am
section
variable {P : Program} {h : Hints} {T : TypeId → TI} {N : Nat} {ds : List (Option Tmp)} {o : Oper} {l : List Oper} {tm : TM} {hp : List SM} {k : TM → List SM → Prop} {j d dd : Nat} {w t : Bool} {V : SV}
theorem Zv5 (hg:o.guard=some (j,w)) (hd:nth ds j=some (some d)) (ht:Zbj d tm=some (.v .b t)) (hw:t= !w) (ho:o.dst=some dd) (hN:Nat.ble (dd+1) N=true) (hk:wpOps P h T N ds l ((dd, .tup [])::tm) hp k):wpOps P h T N ds (o::l) tm hp k:=by
 simp only[wpOps,hg,hd,ht]
 refine⟨fun h=> ?_,fun _=> ?_⟩
 ·rw[hw]at h;cases w<;>cases h
 ·simp only[ZcS,ho,hN];exact hk
theorem ZaP (hg:o.guard=some (j,w)) (hd:nth ds j=some (some d)) (ht:Zbj d tm=some (.v .b t)) (hw:t=w) (hk:opT P h T o.op tm hp fun V hp'=>ZcS N o.dst V tm fun tm'=>wpOps P h T N ds l tm' hp' k):wpOps P h T N ds (o::l) tm hp k:=by
 simp only[wpOps,hg,hd,ht]
 refine⟨fun _=>hk,fun h=> ?_⟩
 rw[hw]at h;cases w<;>cases h
theorem Zag (hg:o.guard=none) (hk:opT P h T o.op tm hp fun V hp'=>ZcS N o.dst V tm fun tm'=>wpOps P h T N ds l tm' hp' k):wpOps P h T N ds (o::l) tm hp k:=by
 simp only[wpOps,hg];exact hk
theorem Zab {dst:Option Tmp} {c:TM→Prop} (ho:dst=some dd) (hN:Nat.ble (dd+1) N=true) (hk:c ((dd,V)::tm)):ZcS N dst V tm c:=by
 simp only[ZcS,ho,hN];exact hk
theorem ZBz (hg:o.guard=none) (he: ∀k,opT P h T o.op tm hp k=k V hp) (ho:o.dst=some dd) (hN:Nat.ble (dd+1) N=true) (hk:wpOps P h T N ds l ((dd,V)::tm) hp k):wpOps P h T N ds (o::l) tm hp k:=by
 refine Zag hg ?_
 rw[he]
 have hk:=Zab (c:=fun tm'=>wpOps P h T N ds l tm' hp k) (V:=V) (tm:=tm) ho hN hk
 exact hk
theorem ZAy (hg:o.guard=some (j,w)) (hd:nth ds j=some (some d)) (ht:Zbj d tm=some (.v .b t)) (hw:t=w) (he: ∀k,opT P h T o.op tm hp k=k V hp) (ho:o.dst=some dd) (hN:Nat.ble (dd+1) N=true) (hk:wpOps P h T N ds l ((dd,V)::tm) hp k):wpOps P h T N ds (o::l) tm hp k:=by
 refine ZaP hg hd ht hw ?_
 rw[he]
 have hk:=Zab (c:=fun tm'=>wpOps P h T N ds l tm' hp k) (V:=V) (tm:=tm) ho hN hk
 exact hk
theorem ZhR {C:Prop} (hg:o.guard=none) (he: ∀k,opT P h T o.op tm hp k=(C∧k V hp)) (hc:C) (ho:o.dst=some dd) (hN:Nat.ble (dd+1) N=true) (hk:wpOps P h T N ds l ((dd,V)::tm) hp k):wpOps P h T N ds (o::l) tm hp k:=by
 refine Zag hg ?_
 rw[he]
 have hk:=Zab (c:=fun tm'=>wpOps P h T N ds l tm' hp k) (V:=V) (tm:=tm) ho hN hk
 exact⟨hc,hk⟩
theorem ZiA {C:Prop} (hg:o.guard=some (j,w)) (hd:nth ds j=some (some d)) (ht:Zbj d tm=some (.v .b t)) (hw:t=w) (he: ∀k,opT P h T o.op tm hp k=(C∧k V hp)) (hc:C) (ho:o.dst=some dd) (hN:Nat.ble (dd+1) N=true) (hk:wpOps P h T N ds l ((dd,V)::tm) hp k):wpOps P h T N ds (o::l) tm hp k:=by
 refine ZaP hg hd ht hw ?_
 rw[he]
 have hk:=Zab (c:=fun tm'=>wpOps P h T N ds l tm' hp k) (V:=V) (tm:=tm) ho hN hk
 exact⟨hc,hk⟩
theorem Zmj {α:Type} {C:α→Prop} {W:α→SV} {x:α} (hg:o.guard=none) (he: ∀k,opT P h T o.op tm hp k= ∃x,C x∧k (W x) hp) (hc:C x) (ho:o.dst=some dd) (hN:Nat.ble (dd+1) N=true) (hk:wpOps P h T N ds l ((dd,(W x))::tm) hp k):wpOps P h T N ds (o::l) tm hp k:=by
 refine Zag hg ?_
 rw[he]
 have hk:=Zab (c:=fun tm'=>wpOps P h T N ds l tm' hp k) (V:=(W x)) (tm:=tm) ho hN hk
 exact⟨x,hc,hk⟩
theorem Zxq {α:Type} {C:α→Prop} {W:α→SV} {x:α} (hg:o.guard=some (j,w)) (hd:nth ds j=some (some d)) (ht:Zbj d tm=some (.v .b t)) (hw:t=w) (he: ∀k,opT P h T o.op tm hp k= ∃x,C x∧k (W x) hp) (hc:C x) (ho:o.dst=some dd) (hN:Nat.ble (dd+1) N=true) (hk:wpOps P h T N ds l ((dd,(W x))::tm) hp k):wpOps P h T N ds (o::l) tm hp k:=by
 refine ZaP hg hd ht hw ?_
 rw[he]
 have hk:=Zab (c:=fun tm'=>wpOps P h T N ds l tm' hp k) (V:=(W x)) (tm:=tm) ho hN hk
 exact⟨x,hc,hk⟩
theorem ZcM {α:Type} {A:Prop} {C:α→Prop} {W:α→SV} {x:α} (hg:o.guard=none) (he: ∀k,opT P h T o.op tm hp k= ∃x,A∧C x∧k (W x) hp) (ha:A) (hc:C x) (ho:o.dst=some dd) (hN:Nat.ble (dd+1) N=true) (hk:wpOps P h T N ds l ((dd,(W x))::tm) hp k):wpOps P h T N ds (o::l) tm hp k:=by
 refine Zag hg ?_
 rw[he]
 have hk:=Zab (c:=fun tm'=>wpOps P h T N ds l tm' hp k) (V:=(W x)) (tm:=tm) ho hN hk
 exact⟨x,ha,hc,hk⟩
theorem Zio {α:Type} {A:Prop} {C:α→Prop} {W:α→SV} {x:α} (hg:o.guard=some (j,w)) (hd:nth ds j=some (some d)) (ht:Zbj d tm=some (.v .b t)) (hw:t=w) (he: ∀k,opT P h T o.op tm hp k= ∃x,A∧C x∧k (W x) hp) (ha:A) (hc:C x) (ho:o.dst=some dd) (hN:Nat.ble (dd+1) N=true) (hk:wpOps P h T N ds l ((dd,(W x))::tm) hp k):wpOps P h T N ds (o::l) tm hp k:=by
 refine ZaP hg hd ht hw ?_
 rw[he]
 have hk:=Zab (c:=fun tm'=>wpOps P h T N ds l tm' hp k) (V:=(W x)) (tm:=tm) ho hN hk
 exact⟨x,ha,hc,hk⟩
theorem Zz6 {c a b:Operand} (hg:o.guard=none) (hop:o.op= .pick c a b) (hc:evS tm c=some (.v .b t)) (ht:t=true) (ha:evS tm a=some V) (ho:o.dst=some dd) (hN:Nat.ble (dd+1) N=true) (hk:wpOps P h T N ds l ((dd,V)::tm) hp k):wpOps P h T N ds (o::l) tm hp k:=by
 refine Zag hg ?_
 rw[hop]
 have hk:=Zab (c:=fun tm'=>wpOps P h T N ds l tm' hp k) (V:=V) (tm:=tm) ho hN hk
 subst ht
 simp[opT,hc,ha]
 exact hk
theorem ZzJ {c a b:Operand} (hg:o.guard=none) (hop:o.op= .pick c a b) (hc:evS tm c=some (.v .b t)) (ht:t=false) (ha:evS tm b=some V) (ho:o.dst=some dd) (hN:Nat.ble (dd+1) N=true) (hk:wpOps P h T N ds l ((dd,V)::tm) hp k):wpOps P h T N ds (o::l) tm hp k:=by
 refine Zag hg ?_
 rw[hop]
 have hk:=Zab (c:=fun tm'=>wpOps P h T N ds l tm' hp k) (V:=V) (tm:=tm) ho hN hk
 subst ht
 simp[opT,hc,ha]
 exact hk
theorem ZlT {F:Nat} {c:Cx} {b:Code} {tm:TM} {hp:List SM} {k:Ex→TM→List SM→Prop} (hp':List SM) (he:hp=hp') (hk:wp P h T F c b tm hp' k):wp P h T F c b tm hp k:=he▸hk
theorem ZsH (hg:o.guard=some (j,w)) (hd:nth ds j=some (some d)) (ht:Zbj d tm=some (.tup [])) (ho:o.dst=some dd) (hN:Nat.ble (dd+1) N=true) (hk:wpOps P h T N ds l ((dd, .tup [])::tm) hp k):wpOps P h T N ds (o::l) tm hp k:=by
 simp only[wpOps,hg,hd,ht,ZcS,ho,hN]
 exact hk
theorem ZdA {c a b:Operand} {t':Bool} (hg:o.guard=some (j,w)) (hd:nth ds j=some (some d)) (htg:Zbj d tm=some (.v .b t')) (hw:t'=w) (hop:o.op= .pick c a b) (hc:evS tm c=some (.v .b t)) (ht:t=true) (ha:evS tm a=some V) (ho:o.dst=some dd) (hN:Nat.ble (dd+1) N=true) (hk:wpOps P h T N ds l ((dd,V)::tm) hp k):wpOps P h T N ds (o::l) tm hp k:=by
 refine ZaP hg hd htg hw ?_
 rw[hop]
 have hk:=Zab (c:=fun tm'=>wpOps P h T N ds l tm' hp k) (V:=V) (tm:=tm) ho hN hk
 subst ht
 simp[opT,hc,ha]
 exact hk
theorem Zeu {c a b:Operand} {t':Bool} (hg:o.guard=some (j,w)) (hd:nth ds j=some (some d)) (htg:Zbj d tm=some (.v .b t')) (hw:t'=w) (hop:o.op= .pick c a b) (hc:evS tm c=some (.v .b t)) (ht:t=false) (ha:evS tm b=some V) (ho:o.dst=some dd) (hN:Nat.ble (dd+1) N=true) (hk:wpOps P h T N ds l ((dd,V)::tm) hp k):wpOps P h T N ds (o::l) tm hp k:=by
 refine ZaP hg hd htg hw ?_
 rw[hop]
 have hk:=Zab (c:=fun tm'=>wpOps P h T N ds l tm' hp k) (V:=V) (tm:=tm) ho hN hk
 subst ht
 simp[opT,hc,ha]
 exact hk
theorem ZeO {F:Nat} {c:Cx} {id:Nat} {b:Code} {k:Ex→TM→List SM→Prop} (hk:h.keepB c.fid id=none) (hb:wp P h T F c b tm hp (ZuN id k)):wp P h T F c (.block id b) tm hp k:=by
 simp only[wp,hk];exact hb
theorem Za0 (hk:k tm hp):wpOps P h T N ds [] tm hp k:=hk
theorem ZaA {F:Nat} {c:Cx} {a b:Code} {k:Ex→TM→List SM→Prop} (hk:wp P h T F c a tm hp (Zzi k fun tm' hp'=>wp P h T F c b tm' hp' k)):wp P h T F c (.seq a b) tm hp k:=hk
theorem ZaI {F:Nat} {c:Cx} {id:Nat} {ops:Array Oper} {dr:Bool} {k:Ex→TM→List SM→Prop} (hl:h.light c.fid id=[]) (hk:wpOps P h T c.N (ZAa ops.toList) ops.toList tm hp fun tm' hp'=>k .normal tm' hp') (hπ:h.perm c.fid id=[]:=by rfl):wp P h T F c (.region id ops dr) tm hp k:=by
 simp only[wp,wpR,hl,hπ];exact hk
end
section
variable {P : Program} {h : Hints} {T : TypeId → TI} {N : Nat} {ds : List (Option Tmp)} {o : Oper} {l : List Oper} {tm : TM} {hp : List SM} {k : TM → List SM → Prop} {j d dd : Nat} {w w' t : Bool} {V : SV}
theorem Zad (hk:wpOps P h T N ds l ((dd,V)::tm) hp k) (hg:o.guard=none:=by exact rfl) (he: ∀k,opT P h T o.op tm hp k=k V hp:=by exact fun _=>rfl) (ho:o.dst=some dd:=by exact rfl) (hN:Nat.ble (dd+1) N=true:=by exact rfl):wpOps P h T N ds (o::l) tm hp k:=ZBz hg he ho hN hk
theorem Zae (hw:t=w) (hk:wpOps P h T N ds l ((dd,V)::tm) hp k) (hg:o.guard=some (j,w):=by exact rfl) (hd:nth ds j=some (some d):=by exact rfl) (ht:Zbj d tm=some (.v .b t):=by exact rfl) (he: ∀k,opT P h T o.op tm hp k=k V hp:=by exact fun _=>rfl) (ho:o.dst=some dd:=by exact rfl) (hN:Nat.ble (dd+1) N=true:=by exact rfl):wpOps P h T N ds (o::l) tm hp k:=ZAy hg hd ht hw he ho hN hk
theorem ZaL (hw:t=w') (hk:wpOps P h T N ds l ((dd, .tup [])::tm) hp k) (hg:o.guard=some (j,w):=by exact rfl) (hd:nth ds j=some (some d):=by exact rfl) (ht:Zbj d tm=some (.v .b t):=by exact rfl) (hn:w'= !w:=by exact rfl) (ho:o.dst=some dd:=by exact rfl) (hN:Nat.ble (dd+1) N=true:=by exact rfl):wpOps P h T N ds (o::l) tm hp k:=Zv5 hg hd ht (hw.trans hn) ho hN hk
theorem ZgC (hk:wpOps P h T N ds l ((dd, .tup [])::tm) hp k) (hg:o.guard=some (j,w):=by exact rfl) (hd:nth ds j=some (some d):=by exact rfl) (ht:Zbj d tm=some (.tup []):=by exact rfl) (ho:o.dst=some dd:=by exact rfl) (hN:Nat.ble (dd+1) N=true:=by exact rfl):wpOps P h T N ds (o::l) tm hp k:=ZsH hg hd ht ho hN hk
theorem ZaY {c a b:Operand} (ht:t=true) (hk:wpOps P h T N ds l ((dd,V)::tm) hp k) (hg:o.guard=none:=by exact rfl) (hop:o.op= .pick c a b:=by exact rfl) (hc:evS tm c=some (.v .b t):=by exact rfl) (ha:evS tm a=some V:=by exact rfl) (ho:o.dst=some dd:=by exact rfl) (hN:Nat.ble (dd+1) N=true:=by exact rfl):wpOps P h T N ds (o::l) tm hp k:=Zz6 hg hop hc ht ha ho hN hk
theorem ZaW {c a b:Operand} (ht:t=false) (hk:wpOps P h T N ds l ((dd,V)::tm) hp k) (hg:o.guard=none:=by exact rfl) (hop:o.op= .pick c a b:=by exact rfl) (hc:evS tm c=some (.v .b t):=by exact rfl) (ha:evS tm b=some V:=by exact rfl) (ho:o.dst=some dd:=by exact rfl) (hN:Nat.ble (dd+1) N=true:=by exact rfl):wpOps P h T N ds (o::l) tm hp k:=ZzJ hg hop hc ht ha ho hN hk
theorem brT {s t:Bool} {A B:Prop} (h:s=true) (k:A) (e:s=true→t=true:=by first|with_reducible exact fun h=>h|exact fun _=>rfl|exact fun h=>h):(t=true→A)∧(t=false→B):=⟨fun _=>k,fun h'=>by rw[e h]at h';cases h'⟩
theorem brF {s t:Bool} {A B:Prop} (h:s=false) (k:B) (e:s=false→t=false:=by first|with_reducible exact fun h=>h|exact fun _=>rfl|exact fun h=>h):(t=true→A)∧(t=false→B):=⟨fun h'=>(by rw[e h]at h';cases h'),fun _=>k⟩
end
end Go.Tx
/-
 From one piece of code to the next.
-/
namespace Go.Tx
open Go.Am
section
variable {P : Program} {h : Hints} {T : TypeId → TI} {tm : TM} {hp : List SM} {F : Nat}
theorem Zgg {k:Ex→TM→List SM→Prop} {n:TM→List SM→Prop} (hn:n tm hp):Zzi k n .normal tm hp:=hn
theorem ZdH {id:Nat} {k:Ex→TM→List SM→Prop} (hn:k .normal tm hp):ZuN id k .normal tm hp:=hn
theorem Zjx {c:Cx} {k:Ex→TM→List SM→Prop} (hn:k .normal tm hp):wp P h T F c .skip tm hp k:=hn
variable {N : Nat} {ds : List (Option Tmp)} {o : Oper} {l : List Oper} {kk : TM → List SM → Prop} {j d dd : Nat} {w t : Bool} {V : SV}
theorem ZBx {hp':List SM} (hg:o.guard=none) (he: ∀k,opT P h T o.op tm hp k=k V hp') (ho:o.dst=some dd) (hN:Nat.ble (dd+1) N=true) (hk:wpOps P h T N ds l ((dd,V)::tm) hp' kk):wpOps P h T N ds (o::l) tm hp kk:=by
 refine Zag hg ?_
 rw[he]
 have hk:=Zab (c:=fun tm'=>wpOps P h T N ds l tm' hp' kk) (V:=V) (tm:=tm) ho hN hk
 exact hk
theorem Zn1 {hp':List SM} (hk:wpOps P h T N ds l ((dd,V)::tm) hp' kk) (hg:o.guard=none:=by exact rfl) (he: ∀k,opT P h T o.op tm hp k=k V hp':=by exact fun _=>rfl) (ho:o.dst=some dd:=by exact rfl) (hN:Nat.ble (dd+1) N=true:=by exact rfl):wpOps P h T N ds (o::l) tm hp kk:=ZBx hg he ho hN hk
end
theorem Zas {p q:Prop} (h:q) (k:q→p:=by
 intro h
 repeat (first|refine Zjx ?_|refine Zgg ?_|refine ZdH ?_)
 first|((repeat first|with_reducible refine ZaA ?_|((with_reducible refine ZeO ?_ ?_);rfl));exact ZaI rfl h)|exact ZaA (ZaI rfl h)|exact ZaA (ZaA (ZaI rfl h))):p:=k h
theorem Zaq {p q:Prop} (h:q) (k:q→p:=by
 intro h
 refine Za0 ?_
 repeat (first|refine Zgg ?_|refine ZdH ?_)
 exact h):p:=k h
end Go.Tx
/-
 States over heaps of any length: what was laid last is dropped; values stay as they are.
-/
namespace Go.Tx
open Go.Am
mutual
theorem Zop {φ:Ph} {n:Nat}: ∀ (V:SV) (q:PV),(∀id∈Zen V,id<n)→RV φ V q→RV (φ.take n) V q
 | .v _ _,_,_,h| .nilp,_,_,h| .nils,_,_,h| .nilf,_,_,h| .nili,_,_,h| .box _ _ _,_,_,h=>by simpa only[RV]using h
 | .ref id i m mm,q,hb,h=>by
  have hid:=hb id (by simp[Zen])
  simp only[RV]at h⊢
  rw[List.getElem?_take_of_lt hid]
  exact h
 | .ptr id i r,q,hb,h=>by
  have hid:=hb id (by simp[Zen])
  simp only[RV]at h⊢
  rw[List.getElem?_take_of_lt hid]
  exact h
 | .func f a c,q,hb,h=>by
  simp only[Zen,List.mem_append]at hb
  simp only[RV]at h⊢
  obtain⟨a',c',h1,h2,h3⟩:=h
  exact⟨a',c',h1,RL_take a a' (fun id hi=>hb id (.inl hi)) h2,RL_take c c' (fun id hi=>hb id (.inr hi)) h3⟩
 | .agg cs,q,hb,h=>by
  simp only[Zen]at hb
  simp only[RV]at h⊢
  obtain⟨cs',h1,h2⟩:=h
  exact⟨cs',h1,RL_take cs cs' hb h2⟩
 | .tup cs,q,hb,h=>by
  simp only[Zen]at hb
  simp only[RV]at h⊢
  obtain⟨cs',h1,h2⟩:=h
  exact⟨cs',h1,RL_take cs cs' hb h2⟩
theorem RL_take {φ:Ph} {n:Nat}: ∀ (l:List SV) (qs:List PV),(∀id∈rchL l,id<n)→RL φ l qs→RL (φ.take n) l qs
 | [],_,_,h=>by simpa only[RL]using h
 |v::vs,qs,hb,h=>by
  simp only[rchL,List.mem_append]at hb
  simp only[RL]at h⊢
  obtain⟨q,r,h1,h2,h3⟩:=h
  exact⟨q,r,h1,Zop v q (fun id hi=>hb id (.inl hi)) h2,RL_take vs r (fun id hi=>hb id (.inr hi)) h3⟩
end
def Zg2:SM→List Nat
 | .cell cs _=>rchL cs
 | .many _ els _=>rchL els
 |_=> []
theorem Zl6 {φ:Ph} {n:Nat}: ∀ {els:List SV} {es:List (List PV)},(∀id∈rchL els,id<n)→All2 (fun V c=> ∃q,c=[q]∧RV φ V q) els es→All2 (fun V c=> ∃q,c=[q]∧RV (φ.take n) V q) els es
 | [],[],_,_=>trivial
 |V::els,c::es,hb,h=>by
  simp only[rchL,List.mem_append]at hb
  obtain⟨⟨q,h1,h2⟩,h3⟩:=h
  exact⟨⟨q,h1,Zop V q (fun id hi=>hb id (.inl hi)) h2⟩,Zl6 (fun id hi=>hb id (.inr hi)) h3⟩
theorem ZxE {φ:Ph} {n:Nat} {L:Nat→Option Mem} {o:Option Nat} {sm:SM} (hb: ∀id∈Zg2 sm,id<n) (h:RM φ L o sm):RM (φ.take n) L o sm:=by
 cases sm with
 |row t l m=>simpa only[RM]using h
 |cell cs m=>
  simp only[RM]at h⊢
  obtain⟨a,cs',m',h1,h2,h3,h4⟩:=h
  exact⟨a,cs',m',h1,h2,RL_take cs cs' hb h3,h4⟩
 |many ct els m=>
  simp only[RM]at h⊢
  cases o with
  |none=>exact h
  |some a=>
   obtain⟨es,m',h1,h2,h3⟩:=h
   exact⟨es,m',h1,Zl6 hb h2,h3⟩
 |dead=>trivial
def ZAW (n:Nat) (tm:TM):TM→Prop
 | []=>True
 |(i,V')::r=>Zbj i tm=some V'∧(∀id∈Zen V',id<n)∧ZAW n tm r
theorem Zqj {n:Nat} {tm:TM}: ∀ {tm':TM} {i:Nat} {V:SV},ZAW n tm tm'→Zbj i tm'=some V→Zbj i tm=some V∧ ∀id∈Zen V,id<n
 | [],_,_,_,h=>by cases h
 |(j,W)::r,i,V,hs,h=>by
  obtain⟨h1,h2,h3⟩:=hs
  simp only[Zbj]at h
  cases hb:Nat.beq i j with
  |true=>
   rw[hb]at h
   cases h
   rw[Nat.eq_of_beq_eq_true hb]
   exact⟨h1,h2⟩
  |false=>
   rw[hb]at h
   exact Zqj h3 h
theorem ZwI {F:Nat} {tm tm':TM} {hp0 ex:List SM} (hF:F≤hp0.length) (htm:ZAW hp0.length tm tm') (hrow: ∀m∈hp0,∀id∈Zg2 m,id<hp0.length):Ent F tm (hp0++ex) tm' hp0:=by
 refine⟨fun φ st _ hs=> ?_⟩
 have hlen:=hs.hp.len
 rw[List.length_append]at hlen
 refine⟨φ.take hp0.length,fun id hid=>by rw[List.getElem?_take_of_lt (by omega)], ?_, ?_⟩
 ·intro i V hi
  obtain⟨h1,h2⟩:=Zqj htm hi
  obtain⟨q,h3,h4⟩:=hs.tm i V h1
  exact⟨q,h3,Zop V q h2 h4⟩
 ·refine⟨by rw[List.length_take];omega, ?_, ?_⟩
  ·intro id sm o hsm ho
   have hid:=(List.getElem?_eq_some_iff.1 hsm).1
   rw[List.getElem?_take_of_lt hid]at ho
   have hm:=hs.hp.row id sm o (by rw[List.getElem?_append_left hid];exact hsm) ho
   exact ZxE (hrow sm (List.mem_of_getElem? hsm)) hm
  ·intro id id' sm sm' a hne h1 h2 h3 h4 h5 h6
   have hid:=(List.getElem?_eq_some_iff.1 h1).1
   have hid':=(List.getElem?_eq_some_iff.1 h2).1
   rw[List.getElem?_take_of_lt hid]at h5
   rw[List.getElem?_take_of_lt hid']at h6
   exact hs.hp.inj id id' sm sm' a hne (by rw[List.getElem?_append_left hid];exact h1) (by rw[List.getElem?_append_left hid'];exact h2) h3 h4 h5 h6
theorem Ent.eqs {F:Nat} {tm tm':TM} {hp hp0 hp':List SM} (e1:hp=hp0) (h:Ent F tm hp0 tm' hp'):Ent F tm hp tm' hp':=e1▸h
mutual
def rnV (f:Nat→Nat):SV→SV
 | .ref id i n m=> .ref (f id) i n m
 | .ptr id i r=> .ptr (f id) i r
 | .func g a c=> .func g (rnL f a) (rnL f c)
 | .agg cs=> .agg (rnL f cs)
 | .tup vs=> .tup (rnL f vs)
 | .v t x=> .v t x
 | .nilp=> .nilp
 | .nils=> .nils
 | .nilf=> .nilf
 | .nili=> .nili
 | .box t x r=> .box t x r
def rnL (f:Nat→Nat):List SV→List SV
 | []=> []
 |v::r=>rnV f v::rnL f r
end
def rnM (f:Nat→Nat):SM→SM
 | .row t l m=> .row t l m
 | .cell cs m=> .cell (rnL f cs) m
 | .many ct els m=> .many ct (rnL f els) m
 | .dead=> .dead
mutual
theorem ZtH {φ ψ:Ph} {f:Nat→Nat} {n:Nat} (h: ∀id,id<n→ψ[id]? =φ[f id]?): ∀ (V:SV) (q:PV),(∀id∈Zen V,id<n)→RV φ (rnV f V) q→RV ψ V q
 | .v _ _,_,_,hr| .nilp,_,_,hr| .nils,_,_,hr| .nilf,_,_,hr| .nili,_,_,hr| .box _ _ _,_,_,hr=>by simpa only[rnV,RV]using hr
 | .ref id i m mm,q,hb,hr=>by
  have hid:=hb id (by simp[Zen])
  simp only[rnV,RV]at hr⊢
  rw[h id hid]
  exact hr
 | .ptr id i r,q,hb,hr=>by
  have hid:=hb id (by simp[Zen])
  simp only[rnV,RV]at hr⊢
  rw[h id hid]
  exact hr
 | .func g a c,q,hb,hr=>by
  simp only[Zen,List.mem_append]at hb
  simp only[rnV,RV]at hr⊢
  obtain⟨a',c',h1,h2,h3⟩:=hr
  exact⟨a',c',h1,RL_map h a a' (fun id hi=>hb id (.inl hi)) h2,RL_map h c c' (fun id hi=>hb id (.inr hi)) h3⟩
 | .agg cs,q,hb,hr=>by
  simp only[Zen]at hb
  simp only[rnV,RV]at hr⊢
  obtain⟨cs',h1,h2⟩:=hr
  exact⟨cs',h1,RL_map h cs cs' hb h2⟩
 | .tup cs,q,hb,hr=>by
  simp only[Zen]at hb
  simp only[rnV,RV]at hr⊢
  obtain⟨cs',h1,h2⟩:=hr
  exact⟨cs',h1,RL_map h cs cs' hb h2⟩
theorem RL_map {φ ψ:Ph} {f:Nat→Nat} {n:Nat} (h: ∀id,id<n→ψ[id]? =φ[f id]?): ∀ (l:List SV) (qs:List PV),(∀id∈rchL l,id<n)→RL φ (rnL f l) qs→RL ψ l qs
 | [],_,_,hr=>by simpa only[rnL,RL]using hr
 |v::vs,qs,hb,hr=>by
  simp only[rchL,List.mem_append]at hb
  simp only[rnL,RL]at hr⊢
  obtain⟨q,r,h1,h2,h3⟩:=hr
  exact⟨q,r,h1,ZtH h v q (fun id hi=>hb id (.inl hi)) h2,RL_map h vs r (fun id hi=>hb id (.inr hi)) h3⟩
end
theorem ZqA {φ ψ:Ph} {f:Nat→Nat} {n:Nat} (h: ∀id,id<n→ψ[id]? =φ[f id]?): ∀ {els:List SV} {es:List (List PV)},(∀id∈rchL els,id<n)→All2 (fun V c=> ∃q,c=[q]∧RV φ V q) (rnL f els) es→All2 (fun V c=> ∃q,c=[q]∧RV ψ V q) els es
 | [],[],_,_=>trivial
 | [],_::_,_,hr=>hr.elim
 |V::els,c::es,hb,hr=>by
  simp only[rchL,List.mem_append]at hb
  obtain⟨⟨q,h1,h2⟩,h3⟩:=hr
  exact⟨⟨q,h1,ZtH h V q (fun id hi=>hb id (.inl hi)) h2⟩,ZqA h (fun id hi=>hb id (.inr hi)) h3⟩
theorem ZzQ {φ ψ:Ph} {f:Nat→Nat} {n:Nat} (h: ∀id,id<n→ψ[id]? =φ[f id]?) {L:Nat→Option Mem} {o:Option Nat} {sm:SM} (hb: ∀id∈Zg2 sm,id<n) (hr:RM φ L o (rnM f sm)):RM ψ L o sm:=by
 cases sm with
 |row t l m=>simpa only[rnM,RM]using hr
 |cell cs m=>
  simp only[rnM,RM]at hr⊢
  obtain⟨a,cs',m',h1,h2,h3,h4⟩:=hr
  exact⟨a,cs',m',h1,h2,RL_map h cs cs' hb h3,h4⟩
 |many ct els m=>
  simp only[rnM,RM]at hr⊢
  cases o with
  |none=>
   simp only at hr⊢
   cases els with
   |nil=>rfl
   |cons v r=>simp[rnL]at hr
  |some a=>
   obtain⟨es,m',h1,h2,h3⟩:=hr
   exact⟨es,m',h1,ZqA h hb h2,h3⟩
 |dead=>trivial
def Zw6 (f:Nat→Nat) (n:Nat) (tm:TM):TM→Prop
 | []=>True
 |(i,V')::r=>Zbj i tm=some (rnV f V')∧(∀id∈Zen V',id<n)∧Zw6 f n tm r
theorem Zpx {f:Nat→Nat} {n:Nat} {tm:TM}: ∀ {tm':TM} {i:Nat} {V:SV},Zw6 f n tm tm'→Zbj i tm'=some V→Zbj i tm=some (rnV f V)∧ ∀id∈Zen V,id<n
 | [],_,_,_,h=>by cases h
 |(j,W)::r,i,V,hs,h=>by
  obtain⟨h1,h2,h3⟩:=hs
  simp only[Zbj]at h
  cases hb:Nat.beq i j with
  |true=>
   rw[hb]at h
   cases h
   rw[Nat.eq_of_beq_eq_true hb]
   exact⟨h1,h2⟩
  |false=>
   rw[hb]at h
   exact Zpx h3 h
theorem Zhb {F:Nat} {tm tm':TM} {hp hp':List SM} (f:Nat→Nat) (hF:F≤hp'.length) (hFf: ∀j,j<F→f j=j) (hf: ∀j,j<hp'.length→f j<hp.length)
 (hinj: ∀i j,i<hp'.length→j<hp'.length→f i=f j→i=j) (htm:Zw6 f hp'.length tm tm')
 (hrow: ∀j m,hp'[j]? =some m→m= .dead∨(hp[f j]? =some (rnM f m)∧ ∀id∈Zg2 m,id<hp'.length)):Ent F tm hp tm' hp':=by
 refine⟨fun φ st hFφ hs=> ?_⟩
 have hlen:=hs.hp.len
 let ψ:Ph:=(List.range hp'.length).map fun j=>(φ[f j]?).getD none
 have hψ: ∀id,id<hp'.length→ψ[id]? =φ[f id]? :=by
  intro id hid
  have h1:ψ[id]? =some ((φ[f id]?).getD none):=by
   simp only[ψ,List.getElem?_map,List.getElem?_range hid,Option.map_some]
  have h2:f id<φ.length:=by rw[hlen];exact hf id hid
  rw[h1,List.getElem?_eq_getElem h2]
  rfl
 refine⟨ψ,fun id hid=>by rw[hψ id (Nat.lt_of_lt_of_le hid hF),hFf id hid], ?_, ?_⟩
 ·intro i V hi
  obtain⟨h1,h2⟩:=Zpx htm hi
  obtain⟨q,h3,h4⟩:=hs.tm i _ h1
  exact⟨q,h3,ZtH hψ V q h2 h4⟩
 ·refine⟨by simp[ψ], ?_, ?_⟩
  ·intro id sm o hsm ho
   have hid:=(List.getElem?_eq_some_iff.1 hsm).1
   rw[hψ id hid]at ho
   rcases hrow id sm hsm with rfl|⟨h1,h2⟩
   ·trivial
   ·exact ZzQ hψ h2 (hs.hp.row _ _ _ h1 ho)
  ·intro id id' sm sm' a hne h1 h2 h3 h4 h5 h6
   have hid:=(List.getElem?_eq_some_iff.1 h1).1
   have hid':=(List.getElem?_eq_some_iff.1 h2).1
   rw[hψ id hid]at h5
   rw[hψ id' hid']at h6
   have lv: ∀m:SM,live m=true→live (rnM f m)=true:=fun m hm=>by cases m<;>first|rfl|cases hm
   rcases hrow id sm h1 with rfl|⟨g1,_⟩
   ·cases h3
   ·rcases hrow id' sm' h2 with rfl|⟨g2,_⟩
    ·cases h4
    ·exact hs.hp.inj _ _ _ _ a (fun e=>hne (hinj _ _ hid hid' e)) g1 g2 (lv _ h3) (lv _ h4) h5 h6
end Go.Tx

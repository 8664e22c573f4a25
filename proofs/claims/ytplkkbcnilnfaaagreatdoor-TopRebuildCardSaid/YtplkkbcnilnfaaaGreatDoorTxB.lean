/- Operations one at a time, each by an equation: the goals stay small. -/
import Derived.Test.YtplkkbcnilnfaaaGreatDoorTx8
set_option linter.all false
namespace Go.Tx
open Go.Am
section
variable {P:Program} {h:Hints} {T:TypeId->TI} {N:Nat} {ds:List (Option Tmp)} {o:Oper} {l:List Oper} {tm:TM} {hp:List SM} {k:TM->List SM->Prop} {j d dd:Nat} {w t:Bool} {V:SV}
def Zng (C:o.guard=some (j,w)) (hd:nth ds j=some (some d)) (I:Zck d tm=some (.v .b t)) (hw:t= !w) (J:o.dst=some dd) (R:Nat.ble (dd+1) N=true) (U:wpOps P h T N ds l ((dd, .tup [])::tm) hp k):wpOps P h T N ds (o::l) tm hp k:=by simp only[wpOps,C,hd,I];refine⟨λh=> ?_,λ_=> ?_⟩;rw[hw]at h;cases w<;>cases h;simp only[ZcR,J,R];exact U
def ZaX (C:o.guard=some (j,w)) (hd:nth ds j=some (some d)) (I:Zck d tm=some (.v .b t)) (hw:t=w) (J:opT P h T o.op tm hp λV hp'=>ZcR N o.dst V tm λtm'=>wpOps P h T N ds l tm' hp' k):wpOps P h T N ds (o::l) tm hp k:=by simp only[wpOps,C,hd,I];refine⟨λ_=>J,λh=> ?_⟩;rw[hw]at h;cases w<;>cases h
def Zac (j:o.guard=none) (C:opT P h T o.op tm hp λV hp'=>ZcR N o.dst V tm λtm'=>wpOps P h T N ds l tm' hp' k):wpOps P h T N ds (o::l) tm hp k:=by simp only[wpOps,j];exact C
def Zaa {dst:Option Tmp} {c:TM->Prop} (j:dst=some dd) (C:Nat.ble (dd+1) N=true) (I:c ((dd,V)::tm)):ZcR N dst V tm c:=by simp only[ZcR,j,C];exact I
def ZGo (C:o.guard=none) (he: ∀k,opT P h T o.op tm hp k=k V hp) (I:o.dst=some dd) (J:Nat.ble (dd+1) N=true) (j:wpOps P h T N ds l ((dd,V)::tm) hp k):wpOps P h T N ds (o::l) tm hp k:=by refine Zac C ?_;rw[he];have j:=Zaa (c:=λtm'=>wpOps P h T N ds l tm' hp k) (V:=V) (tm:=tm) I J j;exact j
def ZBZ (I:o.guard=some (j,w)) (hd:nth ds j=some (some d)) (J:Zck d tm=some (.v .b t)) (hw:t=w) (he: ∀k,opT P h T o.op tm hp k=k V hp) (R:o.dst=some dd) (U:Nat.ble (dd+1) N=true) (C:wpOps P h T N ds l ((dd,V)::tm) hp k):wpOps P h T N ds (o::l) tm hp k:=by refine ZaX I hd J hw ?_;rw[he];have C:=Zaa (c:=λtm'=>wpOps P h T N ds l tm' hp k) (V:=V) (tm:=tm) R U C;exact C
def Zgx {C:Prop} (I:o.guard=none) (he: ∀k,opT P h T o.op tm hp k=(C/\k V hp)) (J:C) (R:o.dst=some dd) (U:Nat.ble (dd+1) N=true) (j:wpOps P h T N ds l ((dd,V)::tm) hp k):wpOps P h T N ds (o::l) tm hp k:=by refine Zac I ?_;rw[he];have j:=Zaa (c:=λtm'=>wpOps P h T N ds l tm' hp k) (V:=V) (tm:=tm) R U j;exact⟨J,j⟩
def ZcD {C:Prop} (J:o.guard=some (j,w)) (hd:nth ds j=some (some d)) (R:Zck d tm=some (.v .b t)) (hw:t=w) (he: ∀k,opT P h T o.op tm hp k=(C/\k V hp)) (U:C) (ho:o.dst=some dd) (hN:Nat.ble (dd+1) N=true) (I:wpOps P h T N ds l ((dd,V)::tm) hp k):wpOps P h T N ds (o::l) tm hp k:=by refine ZaX J hd R hw ?_;rw[he];have I:=Zaa (c:=λtm'=>wpOps P h T N ds l tm' hp k) (V:=V) (tm:=tm) ho hN I;exact⟨U,I⟩
def ZBp {α:Type} {C:α->Prop} {W:α->SV} {x:α} (J:o.guard=some (j,w)) (hd:nth ds j=some (some d)) (R:Zck d tm=some (.v .b t)) (hw:t=w) (he: ∀k,opT P h T o.op tm hp k= ∃x,C x/\k (W x) hp) (U:C x) (ho:o.dst=some dd) (hN:Nat.ble (dd+1) N=true) (I:wpOps P h T N ds l ((dd,(W x))::tm) hp k):wpOps P h T N ds (o::l) tm hp k:=by refine ZaX J hd R hw ?_;rw[he];have I:=Zaa (c:=λtm'=>wpOps P h T N ds l tm' hp k) (V:=(W x)) (tm:=tm) ho hN I;exact⟨x,U,I⟩
def ZH5 {α:Type} {A:Prop} {C:α->Prop} {W:α->SV} {x:α} (I:o.guard=none) (he: ∀k,opT P h T o.op tm hp k= ∃x,A/\C x/\k (W x) hp) (J:A) (R:C x) (U:o.dst=some dd) (hN:Nat.ble (dd+1) N=true) (j:wpOps P h T N ds l ((dd,(W x))::tm) hp k):wpOps P h T N ds (o::l) tm hp k:=by refine Zac I ?_;rw[he];have j:=Zaa (c:=λtm'=>wpOps P h T N ds l tm' hp k) (V:=(W x)) (tm:=tm) U hN j;exact⟨x,J,R,j⟩
def ZwJ {α:Type} {A:Prop} {C:α->Prop} {W:α->SV} {x:α} (J:o.guard=some (j,w)) (hd:nth ds j=some (some d)) (R:Zck d tm=some (.v .b t)) (hw:t=w) (he: ∀k,opT P h T o.op tm hp k= ∃x,A/\C x/\k (W x) hp) (U:A) (hc:C x) (ho:o.dst=some dd) (hN:Nat.ble (dd+1) N=true) (I:wpOps P h T N ds l ((dd,(W x))::tm) hp k):wpOps P h T N ds (o::l) tm hp k:=by refine ZaX J hd R hw ?_;rw[he];have I:=Zaa (c:=λtm'=>wpOps P h T N ds l tm' hp k) (V:=(W x)) (tm:=tm) ho hN I;exact⟨x,U,hc,I⟩
def ZBr {c a b:Operand} (I:o.guard=none) (j:o.op= .pick c a b) (J:evS tm c=some (.v .b t)) (R:t=true) (U:evS tm a=some V) (ho:o.dst=some dd) (hN:Nat.ble (dd+1) N=true) (C:wpOps P h T N ds l ((dd,V)::tm) hp k):wpOps P h T N ds (o::l) tm hp k:=by refine Zac I ?_;rw[j];have C:=Zaa (c:=λtm'=>wpOps P h T N ds l tm' hp k) (V:=V) (tm:=tm) ho hN C;subst R;simp[opT,J,U];exact C
def ZBE {c a b:Operand} (I:o.guard=none) (j:o.op= .pick c a b) (J:evS tm c=some (.v .b t)) (R:t=false) (U:evS tm b=some V) (ho:o.dst=some dd) (hN:Nat.ble (dd+1) N=true) (C:wpOps P h T N ds l ((dd,V)::tm) hp k):wpOps P h T N ds (o::l) tm hp k:=by refine Zac I ?_;rw[j];have C:=Zaa (c:=λtm'=>wpOps P h T N ds l tm' hp k) (V:=V) (tm:=tm) ho hN C;subst R;simp[opT,J,U];exact C
def Znr {F:Nat} {c:Cx} {b:Code} {tm:TM} {hp:List SM} {k:Ex->TM->List SM->Prop} (hp':List SM) (he:hp=hp') (j:wp P h T F c b tm hp' k):wp P h T F c b tm hp k:=he▸j
def Zpg (C:o.guard=some (j,w)) (hd:nth ds j=some (some d)) (I:Zck d tm=some (.tup [])) (J:o.dst=some dd) (R:Nat.ble (dd+1) N=true) (U:wpOps P h T N ds l ((dd, .tup [])::tm) hp k):wpOps P h T N ds (o::l) tm hp k:=by simp only[wpOps,C,hd,I,ZcR,J,R];exact U
def ZCm {c a b:Operand} {R:Bool} (U:o.guard=some (j,w)) (hd:nth ds j=some (some d)) (C:Zck d tm=some (.v .b R)) (hw:R=w) (I:o.op= .pick c a b) (hc:evS tm c=some (.v .b t)) (ht:t=true) (ha:evS tm a=some V) (ho:o.dst=some dd) (hN:Nat.ble (dd+1) N=true) (J:wpOps P h T N ds l ((dd,V)::tm) hp k):wpOps P h T N ds (o::l) tm hp k:=by refine ZaX U hd C hw ?_;rw[I];have J:=Zaa (c:=λtm'=>wpOps P h T N ds l tm' hp k) (V:=V) (tm:=tm) ho hN J;subst ht;simp[opT,hc,ha];exact J
def ZCy {c a b:Operand} {R:Bool} (U:o.guard=some (j,w)) (hd:nth ds j=some (some d)) (C:Zck d tm=some (.v .b R)) (hw:R=w) (I:o.op= .pick c a b) (hc:evS tm c=some (.v .b t)) (ht:t=false) (ha:evS tm b=some V) (ho:o.dst=some dd) (hN:Nat.ble (dd+1) N=true) (J:wpOps P h T N ds l ((dd,V)::tm) hp k):wpOps P h T N ds (o::l) tm hp k:=by refine ZaX U hd C hw ?_;rw[I];have J:=Zaa (c:=λtm'=>wpOps P h T N ds l tm' hp k) (V:=V) (tm:=tm) ho hN J;subst ht;simp[opT,hc,ha];exact J
def ZkE {F:Nat} {c:Cx} {id:Nat} {b:Code} {k:Ex->TM->List SM->Prop} (j:h.keepB c.fid id=none) (C:wp P h T F c b tm hp (ZyI id k)):wp P h T F c (.block id b) tm hp k:=by simp only[wp,j];exact C
def Zeo (j:k tm hp):wpOps P h T N ds [] tm hp k:=j
def Zbi {F:Nat} {c:Cx} {a b:Code} {k:Ex->TM->List SM->Prop} (j:wp P h T F c a tm hp (ZEA k λtm' hp'=>wp P h T F c b tm' hp' k)):wp P h T F c (.seq a b) tm hp k:=j
def Zbx {F:Nat} {c:Cx} {id:Nat} {ops:Array Oper} {C:Bool} {k:Ex->TM->List SM->Prop} (I:h.light c.fid id=[]) (J:wpOps P h T c.N (ZGG ops.toList) ops.toList tm hp λtm' hp'=>k .normal tm' hp') (j:h.perm c.fid id=[]:=by rfl):wp P h T F c (.region id ops C) tm hp k:=by simp only[wp,wpR,I,j];exact J
end
section
variable {P:Program} {h:Hints} {T:TypeId->TI} {N:Nat} {ds:List (Option Tmp)} {o:Oper} {l:List Oper} {tm:TM} {hp:List SM} {k:TM->List SM->Prop} {j d dd:Nat} {w w' t:Bool} {V:SV}
def ZfJ (j:wpOps P h T N ds l ((dd,V)::tm) hp k) (C:o.guard=none:=by exact rfl) (he: ∀k,opT P h T o.op tm hp k=k V hp:=by exact λ_=>rfl) (I:o.dst=some dd:=by exact rfl) (J:Nat.ble (dd+1) N=true:=by exact rfl):wpOps P h T N ds (o::l) tm hp k:=ZGo C he I J j
def Zfu (hw:t=w) (C:wpOps P h T N ds l ((dd,V)::tm) hp k) (I:o.guard=some (j,w):=by exact rfl) (hd:nth ds j=some (some d):=by exact rfl) (J:Zck d tm=some (.v .b t):=by exact rfl) (he: ∀k,opT P h T o.op tm hp k=k V hp:=by exact λ_=>rfl) (R:o.dst=some dd:=by exact rfl) (U:Nat.ble (dd+1) N=true:=by exact rfl):wpOps P h T N ds (o::l) tm hp k:=ZBZ I hd J hw he R U C
def ZHb (hw:t=w') (C:wpOps P h T N ds l ((dd, .tup [])::tm) hp k) (I:o.guard=some (j,w):=by exact rfl) (hd:nth ds j=some (some d):=by exact rfl) (J:Zck d tm=some (.v .b t):=by exact rfl) (R:w'= !w:=by exact rfl) (U:o.dst=some dd:=by exact rfl) (hN:Nat.ble (dd+1) N=true:=by exact rfl):wpOps P h T N ds (o::l) tm hp k:=Zng I hd J (hw.trans R) U hN C
def Zxq {c a b:Operand} (C:t=true) (I:wpOps P h T N ds l ((dd,V)::tm) hp k) (J:o.guard=none:=by exact rfl) (j:o.op= .pick c a b:=by exact rfl) (R:evS tm c=some (.v .b t):=by exact rfl) (U:evS tm a=some V:=by exact rfl) (ho:o.dst=some dd:=by exact rfl) (hN:Nat.ble (dd+1) N=true:=by exact rfl):wpOps P h T N ds (o::l) tm hp k:=ZBr J j R C U ho hN I
def ZxA {c a b:Operand} (C:t=false) (I:wpOps P h T N ds l ((dd,V)::tm) hp k) (J:o.guard=none:=by exact rfl) (j:o.op= .pick c a b:=by exact rfl) (R:evS tm c=some (.v .b t):=by exact rfl) (U:evS tm b=some V:=by exact rfl) (ho:o.dst=some dd:=by exact rfl) (hN:Nat.ble (dd+1) N=true:=by exact rfl):wpOps P h T N ds (o::l) tm hp k:=ZBE J j R C U ho hN I
def brT {s t:Bool} {A B:Prop} (h:s=true) (k:A) (e:s=true->t=true:=by first|with_reducible exact λh=>h|exact λ_=>rfl|exact λh=>h):(t=true->A)/\(t=false->B):=⟨λ_=>k,λj=>by rw[e h]at j;cases j⟩
def brF {s t:Bool} {A B:Prop} (h:s=false) (k:B) (e:s=false->t=false:=by first|with_reducible exact λh=>h|exact λ_=>rfl|exact λh=>h):(t=true->A)/\(t=false->B):=⟨λj=>(by rw[e h]at j;cases j),λ_=>k⟩
end
section
variable {P:Program} {h:Hints} {T:TypeId->TI} {tm:TM} {hp:List SM} {F:Nat}
def Zeh {k:Ex->TM->List SM->Prop} {n:TM->List SM->Prop} (j:n tm hp):ZEA k n .normal tm hp:=j
def ZcA {id:Nat} {k:Ex->TM->List SM->Prop} (j:k .normal tm hp):ZyI id k .normal tm hp:=j
def ZkX {c:Cx} {k:Ex->TM->List SM->Prop} (j:k .normal tm hp):wp P h T F c .skip tm hp k:=j
variable {N:Nat} {ds:List (Option Tmp)} {o:Oper} {l:List Oper} {kk:TM->List SM->Prop} {j d dd:Nat} {w t:Bool} {V:SV}
def ZEL {hp':List SM} (C:o.guard=none) (he: ∀k,opT P h T o.op tm hp k=k V hp') (I:o.dst=some dd) (J:Nat.ble (dd+1) N=true) (j:wpOps P h T N ds l ((dd,V)::tm) hp' kk):wpOps P h T N ds (o::l) tm hp kk:=by refine Zac C ?_;rw[he];have j:=Zaa (c:=λtm'=>wpOps P h T N ds l tm' hp' kk) (V:=V) (tm:=tm) I J j;exact j
def ZFA {hp':List SM} (I:o.guard=some (j,w)) (hd:nth ds j=some (some d)) (J:Zck d tm=some (.v .b t)) (hw:t=w) (he: ∀k,opT P h T o.op tm hp k=k V hp') (R:o.dst=some dd) (U:Nat.ble (dd+1) N=true) (C:wpOps P h T N ds l ((dd,V)::tm) hp' kk):wpOps P h T N ds (o::l) tm hp kk:=by refine ZaX I hd J hw ?_;rw[he];have C:=Zaa (c:=λtm'=>wpOps P h T N ds l tm' hp' kk) (V:=V) (tm:=tm) R U C;exact C
def ZIU {hp':List SM} (j:wpOps P h T N ds l ((dd,V)::tm) hp' kk) (C:o.guard=none:=by exact rfl) (he: ∀k,opT P h T o.op tm hp k=k V hp':=by exact λ_=>rfl) (I:o.dst=some dd:=by exact rfl) (J:Nat.ble (dd+1) N=true:=by exact rfl):wpOps P h T N ds (o::l) tm hp kk:=ZEL C he I J j
end
def ZpR {p q:Prop} (h:q) (k:q->p:=by
 intro h;repeat (first|refine ZkX ?_|refine Zeh ?_|refine ZcA ?_)
 first|((repeat first|with_reducible refine Zbi ?_|((with_reducible refine ZkE ?_ ?_);rfl));exact Zbx rfl h)|exact Zbi (Zbx rfl h)|exact Zbi (Zbi (Zbx rfl h))):p:=k h
def Zc2 {p q:Prop} (h:q) (k:q->p:=by
 intro h;refine Zeo ?_;repeat (first|refine Zeh ?_|refine ZcA ?_)
 exact h):p:=k h
structure Hid (q:Prop):Prop where
 out:q
def ZJd:Op->Bool
 | .call c=>match c.callee with
  | .value (.func _)=>true
  |_=>false
 |_=>false
section
variable {P:Program} {h:Hints} {T:TypeId->TI} {N:Nat} {ds:List (Option Tmp)} {o:Oper} {l:List Oper} {tm:TM} {hp:List SM} {k:TM->List SM->Prop} {j d:Nat} {w t:Bool}
def ZGn (_:ZJd o.op=true) (j:o.guard=none) (C:opT P h T o.op tm hp λV hp'=>ZcR N o.dst V tm λtm'=>wpOps P h T N ds l tm' hp' k):wpOps P h T N ds (o::l) tm hp k:=Zac j C
def Zrx (j:Hid (k tm hp)):wpOps P h T N ds [] tm hp k:=j.out
def ZB7 (_:ZJd o.op=true) (C:o.guard=some (j,w)) (hd:nth ds j=some (some d)) (I:Zck d tm=some (.v .b t)) (hw:t=w) (J:opT P h T o.op tm hp λV hp'=>ZcR N o.dst V tm λtm'=>wpOps P h T N ds l tm' hp' k):wpOps P h T N ds (o::l) tm hp k:=ZaX C hd I hw J
end
def auM {p q:Prop} (h:q) (k:Hid q->p:=by
 intro j;repeat (first
  |with_reducible refine Zrx ?_
  |(refine ZGn rfl rfl (PureOK.mono (by assumption) ?_);rintro _ rfl;refine Zaa rfl rfl ?_)
  |refine ZGo rfl (λ_=>rfl) rfl rfl ?_
  |refine Zpg rfl rfl rfl rfl rfl ?_
  |refine Zng rfl rfl rfl (by first|rfl|assumption) rfl rfl ?_
  |(refine ZB7 rfl rfl rfl rfl (by first|rfl|assumption) (PureOK.mono (by assumption) ?_);rintro _ rfl;refine Zaa rfl rfl ?_)
  |refine ZBZ rfl rfl rfl (by first|rfl|assumption) (λ_=>rfl) rfl rfl ?_
  |refine ZBr rfl rfl rfl (by first|rfl|assumption) rfl rfl rfl ?_
  |refine ZBE rfl rfl rfl (by first|rfl|assumption) rfl rfl rfl ?_
  |refine Zgx rfl (λ_=>rfl) rfl rfl rfl ?_
  |refine ZH5 rfl (λ_=>rfl) (by first|exact XaH _|exact Xbw 0) (by assumption) rfl rfl ?_
  |refine ZEL rfl (λ_=>rfl) rfl rfl ?_
  |refine ZcD rfl rfl rfl (by first|rfl|assumption) (λ_=>rfl) rfl rfl rfl ?_
  |refine ZwJ rfl rfl rfl (by first|rfl|assumption) (λ_=>rfl) (by first|exact XaH _|exact Xbw 0) (by assumption) rfl rfl ?_
  |refine ZCm rfl rfl rfl (by first|rfl|assumption) rfl rfl (by first|rfl|assumption) rfl rfl rfl ?_
  |refine ZCy rfl rfl rfl (by first|rfl|assumption) rfl rfl (by first|rfl|assumption) rfl rfl rfl ?_
  |refine ZFA rfl rfl rfl (by first|rfl|assumption) (λ_=>rfl) rfl rfl ?_)
 exact j.out):p:=k ⟨h⟩
def auN {p q:Prop} (h:q) (k:Hid q->p:=by
 intro j;refine auM ?_;refine Hid.mk ?_;repeat (first|refine Zeh ?_|refine ZcA ?_)
 exact j.out):p:=k ⟨h⟩
def auH {p q:Prop} (h:q) (k:Hid q->p:=by intro j;refine ZpR ?_;refine auM ?_;exact j.out):p:=k ⟨h⟩
def auG {p q:Prop} (h:q) (k:Hid q->p:=by intro j;refine ZpR ?_;refine auN ?_;exact j.out):p:=k ⟨h⟩
mutual
theorem Zra {φ:Ph} {n:Nat}: ∀ (V:SV) (q:PV),(∀id∈ZdI V,id<n)->RV φ V q->RV (φ.take n) V q
 | .v _ _,_,_,h| .nilp,_,_,h| .nils,_,_,h| .nilf,_,_,h| .nili,_,_,h| .nilmp,_,_,h| .box _ _ _,_,_,h| .cl _ _,_,_,h=>by simpa only[RV]using h
 | .ref id i m mm,q,j,h=>by have hid:=j id (by simp[ZdI]);simp only[RV]at h|-;rw[XbN hid];exact h
 | .ptr id i r,q,j,h=>by have hid:=j id (by simp[ZdI]);simp only[RV]at h|-;rw[XbN hid];exact h
 | .func f a c,q,j,h=>by simp only[ZdI,XaJ]at j;simp only[RV]at h|-;obtain⟨R,U,I,J,h3⟩:=h;exact⟨R,U,I,RL_take a R (λid hi=>j id (.inl hi)) J,RL_take c U (λid hi=>j id (.inr hi)) h3⟩
 | .agg cs,q,j,h=>by simp only[ZdI]at j;simp only[RV]at h|-;obtain⟨C,I,J⟩:=h;exact⟨C,I,RL_take cs C j J⟩
 | .tup cs,q,j,h=>by simp only[ZdI]at j;simp only[RV]at h|-;obtain⟨C,I,J⟩:=h;exact⟨C,I,RL_take cs C j J⟩
 | .mp id,q,j,h=>by have hid:=j id (by simp[ZdI]);simp only[RV]at h|-;rw[XbN hid];exact h
theorem RL_take {φ:Ph} {n:Nat}: ∀ (l:List SV) (qs:List PV),(∀id∈rchL l,id<n)->RL φ l qs->RL (φ.take n) l qs
 | [],_,_,h=>by simpa only[RL]using h
 |v::vs,qs,j,h=>by simp only[rchL,XaJ]at j;simp only[RL]at h|-;obtain⟨q,r,C,I,J⟩:=h;exact⟨q,r,C,Zra v q (λid hi=>j id (.inl hi)) I,RL_take vs r (λid hi=>j id (.inr hi)) J⟩
end
def Zes:SM->List Nat
 | .cell cs _=>rchL cs
 | .many _ j _=>rchL j
 |_=> []
def Zoj {φ:Ph} {n:Nat}: ∀ {j:List SV} {es:List (List PV)},(∀id∈rchL j,id<n)->All2 (λV c=> ∃q,c=[q]/\RV φ V q) j es->All2 (λV c=> ∃q,c=[q]/\RV (φ.take n) V q) j es
 | [],[],_,_=>trivial
 |V::j,c::es,C,h=>by simp only[rchL,XaJ]at C;obtain⟨⟨q,I,J⟩,R⟩:=h;exact⟨⟨q,I,Zra V q (λid hi=>C id (.inl hi)) J⟩,Zoj (λid hi=>C id (.inr hi)) R⟩
def ZD8 {φ:Ph} {n:Nat} {L:Nat->Option Mem} {o:Option Nat} {sm:SM} (U: ∀id∈Zes sm,id<n) (h:RM φ L o sm):RM (φ.take n) L o sm:=by cases sm with|row t l m=>simpa only[RM]using h|cell cs m=>simp only[RM]at h|-;obtain⟨a,j,C,I,J,R,h4⟩:=h;exact⟨a,j,C,I,J,RL_take cs j U R,h4⟩|many ct aa m=>(simp only[RM]at h|-;cases o with|none=>exact h|some a=>obtain⟨es,C,I,J,R⟩:=h;exact⟨es,C,I,Zoj U J,R⟩)|set ks=>simpa only[RM]using h|im t ks=>simpa only[RM]using h|dead=>trivial
def ZEC (n:Nat) (tm:TM):TM->Prop
 | []=>True
 |(i,V')::r=>Zck i tm=some V'/\(∀id∈ZdI V',id<n)/\ZEC n tm r
def ZrS {n:Nat} {tm:TM}: ∀ {tm':TM} {i:Nat} {V:SV},ZEC n tm tm'->Zck i tm'=some V->Zck i tm=some V/\ ∀id∈ZdI V,id<n
 | [],_,_,_,h=>by cases h
 |(j,W)::r,i,V,I,h=>by obtain⟨J,R,U⟩:=I;simp only[Zck]at h;cases C:Nat.beq i j with|true=>rw[C]at h;cases h;rw[Xar C];exact⟨J,R⟩|false=>rw[C]at h;exact ZrS U h
def ZcL {F:Nat} {tm tm':TM} {hp0 ex:List SM} (hF:F<=hp0.length) (aa:ZEC hp0.length tm tm') (I: ∀m∈hp0,∀id∈Zes m,id<hp0.length):Ent F tm (hp0++ex) tm' hp0:=by refine⟨λφ st _ J=> ?_⟩;have hlen:=J.hp.len;rw[Xas]at hlen;refine⟨φ.take hp0.length,λid hid=>by rw[XbN (by omega)], ?_, ?_⟩;intro i V hi;obtain⟨R,U⟩:=ZrS aa hi;obtain⟨q,h3,h4⟩:=J.tm i V R;exact⟨q,h3,Zra V q U h4⟩;refine⟨by rw[Xay];omega, ?_, ?_⟩;intro id sm o C ho;have hid:=(Xae.1 C).1;rw[XbN hid]at ho;have hm:=J.hp.row id sm o (by rw[Xam hid];exact C) ho;exact ZD8 (I sm (XaF C)) hm;intro id ab sm ad a ae R U h3 h4 h5 h6;have hid:=(Xae.1 R).1;have j:=(Xae.1 U).1;rw[XbN hid]at h5;rw[XbN j]at h6;exact J.hp.inj id ab sm ad a ae (by rw[Xam hid];exact R) (by rw[Xam j];exact U) h3 h4 h5 h6
def Ent.eqs {F:Nat} {tm tm':TM} {hp hp0 hp':List SM} (j:hp=hp0) (h:Ent F tm hp0 tm' hp'):Ent F tm hp tm' hp':=j▸h
mutual
def rnV (f:Nat->Nat):SV->SV
 | .ref id i n m=> .ref (f id) i n m
 | .ptr id i r=> .ptr (f id) i r
 | .func g a c=> .func g (rnL f a) (rnL f c)
 | .agg cs=> .agg (rnL f cs)
 | .tup vs=> .tup (rnL f vs)
 | .v t x=> .v t x
 | .nilp=> .nilp
 | .nils=> .nils
 | .nilf=> .nilf
 | .nili=> .nili
 | .nilmp=> .nilmp
 | .box t x r=> .box t x r
 | .cl t xs=> .cl t xs
 | .mp id=> .mp (f id)
def rnL (f:Nat->Nat):List SV->List SV
 | []=> []
 |v::r=>rnV f v::rnL f r
end
def rnM (f:Nat->Nat):SM->SM
 | .row t l m=> .row t l m
 | .cell cs m=> .cell (rnL f cs) m
 | .many ct j m=> .many ct (rnL f j) m
 | .set ks=> .set ks
 | .im t ks=> .im t ks
 | .dead=> .dead
mutual
theorem Zw1 {φ U:Ph} {f:Nat->Nat} {n:Nat} (h: ∀id,id<n->U[id]? =φ[f id]?): ∀ (V:SV) (q:PV),(∀id∈ZdI V,id<n)->RV φ (rnV f V) q->RV U V q
 | .v _ _,_,_,j| .nilp,_,_,j| .nils,_,_,j| .nilf,_,_,j| .nili,_,_,j| .nilmp,_,_,j| .box _ _ _,_,_,j| .cl _ _,_,_,j=>by simpa only[rnV,RV]using j
 | .ref id i m mm,q,C,j=>by have hid:=C id (by simp[ZdI]);simp only[rnV,RV]at j|-;rw[h id hid];exact j
 | .ptr id i r,q,C,j=>by have hid:=C id (by simp[ZdI]);simp only[rnV,RV]at j|-;rw[h id hid];exact j
 | .func g a c,q,C,j=>by simp only[ZdI,XaJ]at C;simp only[rnV,RV]at j|-;obtain⟨a',c',J,R,h3⟩:=j;exact⟨a',c',J,RL_map h a a' (λid hi=>C id (.inl hi)) R,RL_map h c c' (λid hi=>C id (.inr hi)) h3⟩
 | .agg cs,q,C,j=>by simp only[ZdI]at C;simp only[rnV,RV]at j|-;obtain⟨I,J,R⟩:=j;exact⟨I,J,RL_map h cs I C R⟩
 | .tup cs,q,C,j=>by simp only[ZdI]at C;simp only[rnV,RV]at j|-;obtain⟨I,J,R⟩:=j;exact⟨I,J,RL_map h cs I C R⟩
 | .mp id,q,C,j=>by have hid:=C id (by simp[ZdI]);simp only[rnV,RV]at j|-;rw[h id hid];exact j
theorem RL_map {φ I:Ph} {f:Nat->Nat} {n:Nat} (h: ∀id,id<n->I[id]? =φ[f id]?): ∀ (l:List SV) (qs:List PV),(∀id∈rchL l,id<n)->RL φ (rnL f l) qs->RL I l qs
 | [],_,_,j=>by simpa only[rnL,RL]using j
 |v::vs,qs,C,j=>by simp only[rchL,XaJ]at C;simp only[rnL,RL]at j|-;obtain⟨q,r,J,R,U⟩:=j;exact⟨q,r,J,Zw1 h v q (λid hi=>C id (.inl hi)) R,RL_map h vs r (λid hi=>C id (.inr hi)) U⟩
end
def Zs3 {φ J:Ph} {f:Nat->Nat} {n:Nat} (h: ∀id,id<n->J[id]? =φ[f id]?): ∀ {j:List SV} {es:List (List PV)},(∀id∈rchL j,id<n)->All2 (λV c=> ∃q,c=[q]/\RV φ V q) (rnL f j) es->All2 (λV c=> ∃q,c=[q]/\RV J V q) j es
 | [],[],_,_=>trivial
 | [],_::_,_,C=>C.elim
 |V::j,c::es,I,C=>by simp only[rchL,XaJ]at I;obtain⟨⟨q,R,U⟩,h3⟩:=C;exact⟨⟨q,R,Zw1 h V q (λid hi=>I id (.inl hi)) U⟩,Zs3 h (λid hi=>I id (.inr hi)) h3⟩
def ZEJ {φ ψ:Ph} {f:Nat->Nat} {n:Nat} (h: ∀id,id<n->ψ[id]? =φ[f id]?) {L:Nat->Option Mem} {o:Option Nat} {sm:SM} (hb: ∀id∈Zes sm,id<n) (j:RM φ L o (rnM f sm)):RM ψ L o sm:=by cases sm with|row t l m=>simpa only[rnM,RM]using j|cell cs m=>simp only[rnM,RM]at j|-;obtain⟨a,C,I,J,R,U,h4⟩:=j;exact⟨a,C,I,J,R,RL_map h cs C hb U,h4⟩|many ct aa m=>(simp only[rnM,RM]at j|-;cases o with|none=>(simp only at j|-;cases aa with|nil=>rfl|cons v r=>simp[rnL]at j)|some a=>obtain⟨es,I,J,R,U⟩:=j;exact⟨es,I,J,Zs3 h hb R,U⟩)|set ks=>simpa only[rnM,RM]using j|im t ks=>simpa only[rnM,RM]using j|dead=>trivial
def ZyK (f:Nat->Nat) (n:Nat) (tm:TM):TM->Prop
 | []=>True
 |(i,V')::r=>Zck i tm=some (rnV f V')/\(∀id∈ZdI V',id<n)/\ZyK f n tm r
def Ztp {f:Nat->Nat} {n:Nat} {tm:TM}: ∀ {tm':TM} {i:Nat} {V:SV},ZyK f n tm tm'->Zck i tm'=some V->Zck i tm=some (rnV f V)/\ ∀id∈ZdI V,id<n
 | [],_,_,_,h=>by cases h
 |(j,W)::r,i,V,I,h=>by obtain⟨J,R,U⟩:=I;simp only[Zck]at h;cases C:Nat.beq i j with|true=>rw[C]at h;cases h;rw[Xar C];exact⟨J,R⟩|false=>rw[C]at h;exact Ztp U h
def Zfv {F:Nat} {tm tm':TM} {hp hp':List SM} (f:Nat->Nat) (hF:F<=hp'.length) (ae: ∀j,j<F->f j=j) (hf: ∀j,j<hp'.length->f j<hp.length)
 (aa: ∀i j,i<hp'.length->j<hp'.length->f i=f j->i=j) (af:ZyK f hp'.length tm tm')
 (I: ∀j m,hp'[j]? =some m->m= .dead\/(hp[f j]? =some (rnM f m)/\ ∀id∈Zes m,id<hp'.length)):Ent F tm hp tm' hp':=by
 refine⟨λφ st ai hs=> ?_⟩;have hlen:=hs.hp.len;let ψ:Ph:=(List.range hp'.length).map λj=>(φ[f j]?).getD none
 have C: ∀id,id<hp'.length->ψ[id]? =φ[f id]? :=by intro id hid;have J:ψ[id]? =some ((φ[f id]?).getD none):=(by simp only[ψ,XaC,Xbf hid,Xal]);have R:f id<φ.length:=(by rw[hlen];exact hf id hid);rw[J,Xad R];rfl
 refine⟨ψ,λid hid=>by rw[C id (Xa6 hid hF),ae id hid], ?_, ?_⟩;intro i V hi;obtain⟨J,R⟩:=Ztp af hi;obtain⟨q,h3,h4⟩:=hs.tm i _ J;exact⟨q,h3,Zw1 C V q R h4⟩;refine⟨by simp[ψ], ?_, ?_⟩;intro id sm o ab ho;have hid:=(Xae.1 ab).1;rw[C id hid]at ho;rcases I id sm ab with rfl|⟨J,R⟩;trivial;exact ZEJ C R (hs.hp.row _ _ _ J ho);intro id ad sm ag a ah J R h3 h4 h5 h6;have hid:=(Xae.1 J).1;have U:=(Xae.1 R).1;rw[C id hid]at h5;rw[C ad U]at h6;have lv: ∀m:SM,live m=true->live (rnM f m)=true:=λm hm=>by cases m<;>first|rfl|cases hm
 rcases I id sm J with rfl|⟨g1,_⟩;cases h3;rcases I ad ag R with rfl|⟨g2,_⟩;cases h4;exact hs.hp.inj _ _ _ _ a (λe=>ah (aa _ _ hid U e)) g1 g2 (lv _ h3) (lv _ h4) h5 h6
section
variable {P:Program} {h:Hints} {T:TypeId->TI} {hp:List SM} {tm:TM}
def Ze9: ∀e:CT,ceq e e=true
 | .i k=>by cases k<;>rfl
 | .b=>rfl
 | .s=>rfl
 | .any=>rfl
 | .l e=>Ze9 e
 | .p a b=>by simp only[ceq,Ze9 a,Ze9 b,Bool.and_true]
def Zaz {α:Type}:Nat->List (List α)->List SV
 |_,[]=> []
 |p,x::r=> .ref p 0 x.length none::Zaz (p+1) r
def ZaU (ct:CT) (xs:List (List ct.D)):List SM:=xs.map λx=> .row ct x true
def ZaI {α:Type}: ∀ (p:Nat) (xs:List (List α)),(Zaz p xs).length=xs.length
 |_,[]=>rfl
 |p,x::r=>by rw[Zaz,Xaq,ZaI,Xaq]
def ZcN {α:Type}: ∀ {p:Nat} {xs:List (List α)} {i:Nat} (hi:i<xs.length),(Zaz p xs)[i]? =some (.ref (i+p) 0 xs[i].length none)
 |p,x::r,0,_=>by rw[Xak];rfl
 |p,x::r,i+1,hi=>by have:=ZcN (p:=p+1) (xs:=r) (i:=i) (Nat.lt_of_succ_lt_succ hi);rw[Zaz,XaP,this];simp only[List.getElem_cons_succ,Xaf,SV.ref.injEq,and_true];omega
def Zaq {ct:CT} (xs:List (List ct.D)):(ZaU ct xs).length=xs.length:=XaG _
def ZcH {ct:CT} {xs:List (List ct.D)} {i:Nat} (hi:i<xs.length):(ZaU ct xs)[i]? =some (.row ct xs[i] true):=by rw[ZaU,XaC,Xad hi];rfl
def Zj3 {ct:CT} {xs:List (List ct.D)} {i:Nat} {y:List ct.D}:(ZaU ct xs).set i (.row ct y true)=ZaU ct (xs.set i y):=by rw[ZaU,ZaU,List.map_set]
def Zxk {A:SM} {fr ex:List SM} {ct:CT} {xs:List (List ct.D)} {i p:Nat} (hi:i<xs.length) (j:p=fr.length+1):nth (A::(fr++(ZaU ct xs++ex))) (i+p)=some (.row ct xs[i] true):=by rw[ZaK,j,show i+(fr.length+1)=(fr.length+i)+1 by omega,XaP,Xaz (by omega),Xbh,Xam (by rw[Zaq];exact hi),ZcH hi]
def Zrv {A:SM} {fr ex:List SM} {ct:CT} {xs:List (List ct.D)} {j n:Nat} (C:n=fr.length+1+xs.length+j):nth (A::(fr++(ZaU ct xs++ex))) n=ex[j]? :=by rw[ZaK,C,show fr.length+1+xs.length+j=(fr.length+(xs.length+j))+1 by omega,XaP,Xaz (by omega),Xbh,Xaz (by rw[Zaq];omega),Zaq,Xbh]
def ZDx {A:SM} {fr ex:List SM} {ct:CT} {xs:List (List ct.D)} {i p:Nat} {x:SM} (hi:i<xs.length) (j:p=fr.length+1):(A::(fr++(ZaU ct xs++ex))).set (i+p) x=A::(fr++((ZaU ct xs).set i x++ex)):=by rw[j,show i+(fr.length+1)=(fr.length+i)+1 by omega,List.set_cons_succ,List.set_append_right _ _ (by omega),Xbh,List.set_append_left _ _ (by rw[Zaq];exact hi)]
def ZxK {A:SM} {fr ex:List SM} {ct:CT} {xs:List (List ct.D)} {j n:Nat} {x:SM} (C:n=fr.length+1+xs.length+j):(A::(fr++(ZaU ct xs++ex))).set n x=A::(fr++(ZaU ct xs++ex.set j x)):=by rw[C,show fr.length+1+xs.length+j=(fr.length+(xs.length+j))+1 by omega,List.set_cons_succ,List.set_append_right _ _ (by omega),Xbh,List.set_append_right _ _ (by rw[Zaq];omega),Zaq,Xbh]
def Zl5 {A:SM} {fr ex:List SM} {ct:CT} {xs:List (List ct.D)}:(A::(fr++(ZaU ct xs++ex))).length=fr.length+1+xs.length+ex.length:=by rw[Xaq,Xas,Xas,Zaq];omega
def Znz {A:SM} {fr ex:List SM} {ct:CT} {xs:List (List ct.D)} {x:SM}:(A::(fr++(ZaU ct xs++ex)))++ [x]=A::(fr++(ZaU ct xs++(ex++ [x]))):=by rw[Xbs,Xa2,Xa2]
def ZcO:TK->Bool
 | .other=>true
 |_=>false
def Zri {t:TypeId} {id i r:Nat} {x:SV} {cs:List SV} {k:SV->List SM->Prop} (I:nth hp id=some (.cell cs true)) (J:(ZbB x&&Nat.beq (Zbr x).length (T t).sz)=true) (R:Nat.ble (r+(T t).sz) cs.length=true) (C:ZcO (T t).k=false) (hi:i=0) (U:k (.tup []) (hp.set id (.cell (spl cs r (Zbr x)) true))):Zjk T t hp (.ptr id i r) x k:=by simp only[Zjk,J,I];refine⟨hi, ?_⟩;rw[R];split;rename_i j;rw[j]at C;cases C;exact U;rename_i j;exact(j rfl).elim
def Zuh {t:TypeId} {id i r:Nat} {cs:List SV} {V:SV} {m:Bool} {k:SV->Prop} (j:nth hp id=some (.cell cs m)) (C:Zhl (T t) cs r=some V) (hi:i=0) (I:k V):Zm0 T t hp (.ptr id i r) k:=by simp only[Zm0,j];exact⟨hi,by rw[C];exact I⟩
def Zxx {t:TypeId} {id i r:Nat} {ct:CT} {l:List ct.D} {x:ct.D} {V:SV} {m:Bool} {k:SV->Prop} (j:nth hp id=some (.row ct l m)) (C:l[i]? =some x) (I:Zhl (T t) (Zbf ct x) r=some V) (J:k V):Zm0 T t hp (.ptr id i r) k:=by simp only[Zm0,j];exact⟨x,C,by rw[I];exact J⟩
def ZuO {t:TypeId} {id i r:Nat} {x:SV} {ct:CT} {l:List ct.D} {y z:ct.D} {k:SV->List SM->Prop} (j:nth hp id=some (.row ct l true)) (C:(ZbB x&&Nat.beq (Zbr x).length (T t).sz)=true) (I:l[i]? =some y) (J:Nat.ble (r+(T t).sz) ct.w=true) (R:ZcO (T t).k=false) (U:Zb3 ct (spl (Zbf ct y) r (Zbr x))=some z) (hk:k (.tup []) (hp.set id (.row ct (l.set i z) true))):Zjk T t hp (.ptr id i r) x k:=by simp only[Zjk,C,j];refine⟨y,I, ?_⟩;rw[J,U];generalize(T t).k=kk at*;cases kk<;>first|(cases R;done)|exact hk
def ZDH {z id i n:Nat} {m:Option Nat} {j:Int} {ct:CT} {l:List ct.D} {b:Bool} {k:SV->Prop} (C:nth hp id=some (.row ct l b)) (I:Nat.beq ct.w z=true) (J:0<=j/\j<n) (R:k (.ptr id (i+j.toNat) 0)):ixT z hp (.ref id i n m) j k:=by simp only[ixT,C];rw[I];exact⟨J,R⟩
def Zjx {ct:CT} {id i n:Nat} {m:Option Nat} {l:List ct.D} {b:Bool} {k:List ct.D->Prop} (j:nth hp id=some (.row ct l b)) (C:i+n<=l.length) (I:k (sub l i n)):Zys ct hp (.ref id i n m) k:=by simp only[Zys,j];rw[dif_pos (Ze9 ct)];exact⟨C,I⟩
def ZnI {ct:CT} {by_ id i n:Nat} {l:List ct.D} {x:ct.D} {r:List ct.D} {k:SV->List SM->Prop} (j:nth hp id=some (.row ct l true)) (C:i+n<=l.length) (I:(n+(r.length+1))*by_<=140737488355328) (J:k (.ref hp.length 0 (n+(r.length+1)) none) (hp.set id .dead++ [.row ct (sub l i n++x::r) true])):ZuV ct by_ hp (.ref id i n none) (x::r) k:=by simp only[ZuV,j];rw[dif_pos (Ze9 ct)];exact⟨C,I,J⟩
def Zay {op:Op} {t:TypeId} {id i r:Nat} {x:SV} {cs:List SV} {k:SV->List SM->Prop} {a b:Operand} (j:op= .store t a b) (C:evS tm a=some (.ptr id i r)) (I:evS tm b=some x) (J:nth hp id=some (.cell cs true)) (R:(ZbB x&&Nat.beq (Zbr x).length (T t).sz)=true) (U:Nat.ble (r+(T t).sz) cs.length=true) (h3:ZcO (T t).k=false) (hi:i=0) (hk:k (.tup []) (hp.set id (.cell (spl cs r (Zbr x)) true))):opT P h T op tm hp k:=by simp only[j,opT,C,I];exact Zri J R U h3 hi hk
def ZaZ {op:Op} {t:TypeId} {id i r:Nat} {cs:List SV} {V:SV} {m:Bool} {k:SV->List SM->Prop} {a:Operand} (j:op= .load t a) (C:evS tm a=some (.ptr id i r)) (I:nth hp id=some (.cell cs m)) (J:Zhl (T t) cs r=some V) (hi:i=0) (R:k V hp):opT P h T op tm hp k:=by simp only[j,opT,C];exact Zuh I J hi R
def Zau {op:Op} {t:TypeId} {id i r:Nat} {ct:CT} {l:List ct.D} {x:ct.D} {V:SV} {m:Bool} {k:SV->List SM->Prop} {a:Operand} (j:op= .load t a) (C:evS tm a=some (.ptr id i r)) (I:nth hp id=some (.row ct l m)) (J:l[i]? =some x) (R:Zhl (T t) (Zbf ct x) r=some V) (U:k V hp):opT P h T op tm hp k:=by simp only[j,opT,C];exact Zxx I J R U
def Za8 {op:Op} {t:TypeId} {id i r:Nat} {x:SV} {ct:CT} {l:List ct.D} {y z:ct.D} {k:SV->List SM->Prop} {a b:Operand} (j:op= .store t a b) (C:evS tm a=some (.ptr id i r)) (I:evS tm b=some x) (J:nth hp id=some (.row ct l true)) (R:(ZbB x&&Nat.beq (Zbr x).length (T t).sz)=true) (U:l[i]? =some y) (h2:Nat.ble (r+(T t).sz) ct.w=true) (h3:ZcO (T t).k=false) (h4:Zb3 ct (spl (Zbf ct y) r (Zbr x))=some z) (hk:k (.tup []) (hp.set id (.row ct (l.set i z) true))):opT P h T op tm hp k:=by simp only[j,opT,C,I];exact ZuO J R U h2 h3 h4 hk
variable {F N:Nat} {ls:List Nat} {o:Oper} {l:List Oper} {i dd:Nat} {ks:List (Nat × Nat × Bool)} {kk:TM->List SM->Prop} {V:SV}
def Ziw {c:Cx} {id j:Nat} {I:List Nat} {ops:Array Oper} {J:Bool} {k:Ex->TM->List SM->Prop} (R:h.light c.fid id=j::I) (U:noG ops.toList=true) (hk:ZaD P h T c.N (j::I) ops.toList 0 [] tm hp λtm' hp'=>k .normal tm' hp') (C:h.perm c.fid id=[]:=by rfl):wp P h T F c (.region id ops J) tm hp k:=by simp only[wp,wpR,C,R,U];exact hk
def Zif {c:Cx} {id i j:Nat} {r I:List Nat} {ops:Array Oper} {os:List Oper} {J:Bool} {k:Ex->TM->List SM->Prop} (C:h.perm c.fid id=i::r) (R:h.light c.fid id=j::I) (U:Ziy (i::r) ops (i::r)=os) (hg:noG os=true) (hk:ZaD P h T c.N (j::I) os 0 [] tm hp λtm' hp'=>k .normal tm' hp'):wp P h T F c (.region id ops J) tm hp k:=by have e:(rgo (i::r) ops).toList=os:=U;simp only[wp,wpR,C,R,e,hg];exact hk
def ZCC (j:kk tm hp):ZaD P h T N ls [] i ks tm hp kk:=j
def ZFg {hp':List SM} (e:hp=hp') (j:ZaD P h T N ls l i ks tm hp' kk):ZaD P h T N ls l i ks tm hp kk:=e▸j
def ZiW {x:Operand} (hi:has i ls=true) (j:o.op= .move x) (C:evS tm x=some V) (hd:o.dst=some dd) (I:Nat.ble (dd+1) N=true) (J:ZaD P h T N ls l (i+1) ks ((dd,V)::tm) hp kk):ZaD P h T N ls (o::l) i ks tm hp kk:=by simp only[ZaD,hi,j,opT,C,ZcR,hd,I];exact J
def ZGF {t:TypeId} {x y:Operand} {id a n:Nat} {m:Option Nat} {C:Prop} (hi:has i ls=true) (j:o.op= .indexAddr t x y) (I:evS tm x=some (.ref id a n m)) (he: ∀k,opT P h T (.indexAddr t x y) tm hp k=(C/\k V hp)) (J:C) (hd:o.dst=some dd) (R:Nat.ble (dd+1) N=true) (U:ZaD P h T N ls l (i+1) ((i,id,false)::ks) ((dd,V)::tm) hp kk):ZaD P h T N ls (o::l) i ks tm hp kk:=by simp only[ZaD,hi,j,I,he,ZcR,hd,R];exact⟨J,U⟩
def ZGd {t:TypeId} {x y:Operand} {id a r:Nat} {C:Prop} (hi:has i ls=true) (j:o.op= .indexAddr t x y) (I:evS tm x=some (.ptr id a r)) (he: ∀k,opT P h T (.indexAddr t x y) tm hp k=(C/\k V hp)) (J:C) (hd:o.dst=some dd) (R:Nat.ble (dd+1) N=true) (U:ZaD P h T N ls l (i+1) ks ((dd,V)::tm) hp kk):ZaD P h T N ls (o::l) i ks tm hp kk:=by simp only[ZaD,hi,j,I,he,ZcR,hd,R];exact⟨J,U⟩
def ZFX {t:TypeId} {x:Operand} {id a r:Nat} {α:Type} {C:α->Prop} {W:α->SV} {z:α} (hi:has i ls=true) (j:o.op= .load t x) (I:evS tm x=some (.ptr id a r)) (he: ∀k,opT P h T (.load t x) tm hp k= ∃z,C z/\k (W z) hp) (J:C z) (hd:o.dst=some dd) (R:Nat.ble (dd+1) N=true) (U:ZaD P h T N ls l (i+1) ((i,id,true)::ks) ((dd,W z)::tm) hp kk):ZaD P h T N ls (o::l) i ks tm hp kk:=by simp only[ZaD,hi,j,I,he,ZcR,hd,R];exact⟨z,J,U⟩
def Zax (hi:has i ls=false) (hw:isW h o=false) (j:opT P h T o.op tm hp λV hp'=>ZcR N o.dst V tm λtm'=>ZaD P h T N ls l (i+1) ks tm' hp' kk):ZaD P h T N ls (o::l) i ks tm hp kk:=by simp only[ZaD,hi,ZqC,hw];split;exact j;exact j
def Zin (hi:has i ls=false) (hd:ZqC h o ks=[]) (j:opT P h T o.op tm hp λV hp'=>ZcR N o.dst V tm λtm'=>ZaD P h T N ls l (i+1) [] tm' hp' kk):ZaD P h T N ls (o::l) i ks tm hp kk:=by simp only[ZaD,hi,hd];exact j
def ZaT {c:TM->Prop} {dst:Option Tmp} (j:dst=some dd) (C:Nat.ble (dd+1) N=true) (I:c ((dd,V)::tm)):ZcR N dst V tm c:=by simp only[ZcR,j,C];exact I
def Zal {c:TM->Prop} {dst:Option Tmp} (j:dst=none) (C:c tm):ZcR N dst V tm c:=by simp only[ZcR,j];exact C
variable {op:Op} {dst:Option Tmp} {c:TM->List SM->Prop}
def opv (he: ∀k,opT P h T op tm hp k=k V hp) (j:dst=some dd) (C:Nat.ble (dd+1) N=true) (I:c ((dd,V)::tm) hp):opT P h T op tm hp λV hp'=>ZcR N dst V tm λtm'=>c tm' hp':=by rw[he];simp only[ZcR,j,C];exact I
def opm {hp':List SM} (he: ∀k,opT P h T op tm hp k=k V hp') (j:dst=some dd) (C:Nat.ble (dd+1) N=true) (I:c ((dd,V)::tm) hp'):opT P h T op tm hp λV hp'=>ZcR N dst V tm λtm'=>c tm' hp':=by rw[he];simp only[ZcR,j,C];exact I
def opc {C:Prop} (he: ∀k,opT P h T op tm hp k=(C/\k V hp)) (j:C) (I:dst=some dd) (J:Nat.ble (dd+1) N=true) (R:c ((dd,V)::tm) hp):opT P h T op tm hp λV hp'=>ZcR N dst V tm λtm'=>c tm' hp':=by rw[he];simp only[ZcR,I,J];exact⟨j,R⟩
def ZcW {ds:List (Option Tmp)} {hp':List SM} (e:hp=hp') (j:wpOps P h T N ds l tm hp' kk):wpOps P h T N ds l tm hp kk:=e▸j
def ZuT (p:Nat):List Nat->Bool
 | []=>true
 |i::r=>Nat.ble (i+1) p&&ZuT p r
def ZfQ {p id:Nat}: ∀ {l:List Nat},ZuT p l=true->id∈l->id<p
 |i::r,h,hm=>by simp only[ZuT,Xah]at h;rcases Xau.1 hm with rfl|hm;exact Xao h.1;exact ZfQ h.2 hm
def ZBN (p:Nat) (tm:TM):TM->Prop
 | []=>True
 |(i,V')::r=>Zck i tm=some V'/\ZuT p (ZdI V')=true/\ZBN p tm r
mutual
theorem ZB0 {f:Nat->Nat} {p:Nat} (hf: ∀j,j<p->f j=j): ∀V:SV,(∀id∈ZdI V,id<p)->rnV f V=V
 | .ref id i n m,C=>by rw[rnV,hf id (C id (by simp[ZdI]))]
 | .ptr id i r,C=>by rw[rnV,hf id (C id (by simp[ZdI]))]
 | .func g a c,C=>by simp only[ZdI,XaJ]at C;rw[rnV,rnL_id hf a (λid hi=>C id (.inl hi)),rnL_id hf c (λid hi=>C id (.inr hi))]
 | .agg cs,C=>by rw[rnV,rnL_id hf cs (by simpa only[ZdI]using C)]
 | .tup cs,C=>by rw[rnV,rnL_id hf cs (by simpa only[ZdI]using C)]
 | .v _ _,_| .nilp,_| .nils,_| .nilf,_| .nili,_| .nilmp,_| .box _ _ _,_| .cl _ _,_=>rfl
 | .mp id,C=>by rw[rnV,hf id (C id (by simp[ZdI]))]
theorem rnL_id {f:Nat->Nat} {p:Nat} (hf: ∀j,j<p->f j=j): ∀l:List SV,(∀id∈rchL l,id<p)->rnL f l=l
 | [],_=>rfl
 |V::r,C=>by simp only[rchL,XaJ]at C;rw[rnL,ZB0 hf V (λid hi=>C id (.inl hi)),rnL_id hf r (λid hi=>C id (.inr hi))]
end
def Zmh {f:Nat->Nat} {p:Nat} (hf: ∀j,j<p->f j=j) (m:SM) (I: ∀id∈Zes m,id<p):rnM f m=m:=by cases m with|row t l b=>rfl|cell cs b=>rw[rnM,rnL_id hf cs (by simpa only[Zes]using I)]|many ct C b=>rw[rnM,rnL_id hf C (by simpa only[Zes]using I)]|set ks=>rfl|im t ks=>rfl|dead=>rfl
def Zks {f:Nat->Nat} {p n:Nat} (hf: ∀j,j<p->f j=j) (C:p<=n) {tm:TM}: ∀ {tm':TM},ZBN p tm tm'->ZyK f n tm tm'
 | [],_=>trivial
 |(i,V')::r,⟨J,I,R⟩=>⟨by rw[ZB0 hf V' λid hi=>ZfQ I hi];exact J,λid hi=>Xa6 (ZfQ I hi) C,Zks hf C R⟩
def ZpZ (f:Nat->Nat): ∀l:List SV,rnL f l=l.map (rnV f)
 | []=>rfl
 |v::r=>by rw[rnL,ZpZ f r];rfl
def ZeM {α:Type} {id:Nat}: ∀ {p:Nat} {xs:List (List α)},id∈rchL (Zaz p xs)->id<p+xs.length
 |p,x::r,hm=>by simp only[Zaz,rchL,ZdI,XaJ,Xat]at hm;rw[Xaq];rcases hm with rfl|hm;omega;have:=ZeM (p:=p+1) (xs:=r) hm;omega
def Zzv {α:Type} {f:Nat->Nat} {p i L:Nat} {xs:List (List α)} {y:List α} (J:f (i+p)=L) (hf: ∀j,j≠i->j<xs.length->f (j+p)=j+p):rnL f (Zaz p (xs.set i y))=(Zaz p xs).set i (.ref L 0 y.length none):=by
 rw[ZpZ];apply XaW;intro j;rw[XaC];by_cases I:j<xs.length;rw[ZcN (by rw[XaB];exact I)];show some (SV.ref (f (j+p)) 0 _ none)=_;by_cases C:j=i;subst C;rw[XaE (by rw[ZaI];exact I),J,List.getElem_set_self];rw[XaD (λe=>C e.symm),ZcN I,hf j C I];have e:(xs.set i y)[j]'(by rw[XaB];exact I)=xs[j]:=by rw[List.getElem_set_ne (λe=>C e.symm)]
 rw[e];rw[Xax (by rw[ZaI,XaB];omega),Xax (by rw[XaB,ZaI];omega)];rfl
def ZDX {F:Nat} {tm tm':TM} {ct:CT} {fr ex:List SM} {xs:List (List ct.D)} {i e L p:Nat} {y:List ct.D} {d:SM} (hq:p=fr.length+1) (hi:i<xs.length) (hL:L=fr.length+1+xs.length+e) (hx:ex[e]? =some (.row ct y true)) (hF:F<=p) (ab: ∀m∈fr,∀id∈Zes m,id<p) (ad:ZBN p tm tm'):
 Ent F tm (.many (.l ct) ((Zaz p xs).set i (.ref L 0 y.length none)) true::(fr++((ZaU ct xs).set i d++ex))) tm' (.many (.l ct) (Zaz p (xs.set i y)) true::(fr++(ZaU ct (xs.set i y)++ []))):=by
 have ae:e<ex.length:=(Xae.1 hx).1;have hlen:(SM.many (.l ct) (Zaz p (xs.set i y)) true::(fr++(ZaU ct (xs.set i y)++ []))).length=fr.length+1+xs.length:=by rw[Zl5,XaB];rfl
 have U:(SM.many (.l ct) ((Zaz p xs).set i (.ref L 0 y.length none)) true::(fr++((ZaU ct xs).set i d++ex))).length=fr.length+1+xs.length+ex.length:=by rw[Xaq,Xas,Xas,XaB,Zaq];omega
 let f:Nat->Nat:=λj=>if j=i+p then L else j
 have fi:f (i+p)=L:=if_pos rfl;have fn: ∀j,j≠i+p->f j=j:=λj I=>if_neg I
 have C: ∀j,j<p->f j=j:=λj I=>fn j (by omega)
 refine Zfv f ?_ ?_ ?_ ?_ ?_ ?_;rw[hlen];omega;intro j I;exact C j (by omega);intro j I;rw[hlen]at I;rw[U];by_cases h:j=i+p;rw[h,fi];omega;rw[fn j h];omega;intro a b ha hb J;rw[hlen]at ha hb;by_cases h1:a=i+p;by_cases h2:b=i+p;omega;rw[h1,fi,fn b h2]at J;omega;by_cases h2:b=i+p;rw[h2,fi,fn a h1]at J;omega;rw[fn a h1,fn b h2]at J;exact J;exact Zks C (by rw[hlen];omega) ad;intro j m hm;right;cases j with|zero=>have hm:some (SM.many (.l ct) (Zaz p (xs.set i y)) true)=some m:=hm;cases hm;refine⟨?_,λid hid=> ?_⟩;rw[C 0 (by omega)];show some (SM.many (.l ct) ((Zaz p xs).set i (.ref L 0 y.length none)) true)=some (SM.many (.l ct) (rnL f (Zaz p (xs.set i y))) true);rw[Zzv fi λj I R=>fn (j+p) (by omega)];have:=ZeM (by simpa only[Zes]using hid);rw[XaB]at this;rw[hlen];omega|succ j=>rw[XaP]at hm;by_cases I:j<fr.length;rw[Xam I]at hm;have hb:=ab m (XaF hm);refine⟨?_,λid hid=>by have:=hb id hid;rw[hlen];omega⟩;rw[C (j+1) (by omega),Zmh C m hb,XaP,Xam I];exact hm;rw[Xaz (by omega),XaN]at hm;have R:j-fr.length<xs.length:=(by have:=(Xae.1 hm).1;rw[Zaq,XaB]at this;exact this);rw[ZcH (by rw[XaB];exact R)]at hm;cases hm;refine⟨?_,λid hid=>by simp[Zes]at hid⟩;by_cases aa:j-fr.length=i;rw[show j+1=i+p by omega,fi,hL,show fr.length+1+xs.length+e=(fr.length+(xs.length+e))+1 by omega,XaP,Xaz (by omega),Xbh,Xaz (by rw[XaB,Zaq];omega),XaB,Zaq,Xbh,hx];simp only[aa,List.getElem_set_self];rfl;rw[fn (j+1) (by omega),XaP,Xaz (by omega),Xam (by rw[XaB,Zaq];exact R),XaD (λe=>aa e.symm),ZcH R];simp only[List.getElem_set_ne (λe=>aa e.symm)];rfl
def opy {α:Type} {A:Prop} {C:α->Prop} {W:α->SV} {x:α} (he: ∀k,opT P h T op tm hp k= ∃x,A/\C x/\k (W x) hp) (j:A) (I:C x) (J:dst=some dd) (R:Nat.ble (dd+1) N=true) (U:c ((dd,W x)::tm) hp):opT P h T op tm hp λV hp'=>ZcR N dst V tm λtm'=>c tm' hp':=by rw[he];simp only[ZcR,J,R];exact⟨x,j,I,U⟩
def Zz2 {F:Nat} {tm tm':TM} {ct:CT} {fr:List SM} {n p:Nat} (hq:p=fr.length+1) (hF:F<=p) (ab:ZBN p tm tm'):Ent F tm (.many (.l ct) (List.replicate n .nils) true::fr) tm' (.many (.l ct) (Zaz p (List.replicate n ([]:List ct.D))) true::(fr++(ZaU ct (List.replicate n [])++ []))):=by
 refine⟨λφ st _ hs=> ?_⟩;have hlen:φ.length=p:=by rw[hs.hp.len,Xaq,hq]
 let ψ:Ph:=φ++List.replicate n none
 have hle:Le φ ψ:=Le.app _ _;have aa: ∀j,j<n->ψ[j+p]? =some none:=λj hj=>by show(φ++List.replicate n none)[j+p]? =_;rw[Xaz (by omega),hlen,Nat.add_sub_cancel,Xbn,if_pos hj]
 have I: ∀id,id<p->ψ[id]? =φ[id]? :=λid hid=>by show(φ++List.replicate n none)[id]? =_;rw[Xam (by omega)]
 have ad:(SM.many (.l ct) (Zaz p (List.replicate n ([]:List ct.D))) true::(fr++(ZaU ct (List.replicate n [])++ []))).length=p+n:=by rw[Zl5,XaM,hq];rfl
 have J: ∀ {tm':TM} {i:Nat} {V:SV},ZBN p tm tm'->Zck i tm'=some V->Zck i tm=some V:=by intro tm';induction tm' with|nil=>intro i V _ h;cases h|cons a r ih=>obtain⟨j,W⟩:=a;rintro i V ⟨h1,_,h3⟩ h;simp only[Zck]at h;cases R:Nat.beq i j with|true=>rw[R]at h;cases h;rw[Xar R];exact h1|false=>rw[R]at h;exact ih h3 h
 refine⟨ψ,λid hid=>I id (by omega), ?_,⟨by rw[ad];show(φ++List.replicate n none).length=_;rw[Xas,XaM,hlen], ?_, ?_⟩⟩;intro i V hi;obtain⟨q,h1,h2⟩:=hs.tm i V (J ab hi);exact⟨q,h1,RV.mono hle V q h2⟩;intro id sm o C ho;cases id with
  |zero=>
   have C:some (SM.many (.l ct) (Zaz p (List.replicate n ([]:List ct.D))) true)=some sm:=C;cases C;rw[I 0 (by omega)]at ho;have hm:=hs.hp.row 0 _ o rfl ho;cases o with
   |none=>simp only[RM]at hm|-;cases n with|zero=>rfl|succ n=>cases hm
   |some a=>
    simp only[RM]at hm|-;obtain⟨es,m',g1,g2,g3⟩:=hm;refine⟨es,m',g1, ?_,g3⟩;have gen: ∀ (k j:Nat) (es:List (List PV)),j+k<=n->All2 (λV c=> ∃q,c=[q]/\RV φ V q) (List.replicate k SV.nils) es->All2 (λV c=> ∃q,c=[q]/\RV ψ V q) (Zaz (p+j) (List.replicate k ([]:List ct.D))) es:=by intro k;induction k with|zero=>(intro j es _ h;cases es with|nil=>exact trivial|cons _ _=>exact h.elim)|succ k ih=>intro j es ag h;cases es with|nil=>exact h.elim|cons c es=>obtain⟨⟨q,e1,e2⟩,h2⟩:=h;refine⟨⟨q,e1, ?_⟩, ?_⟩;simp only[RV]at e2|-;right;refine⟨?_,e2,trivial,rfl,rfl⟩;rw[Nat.add_comm];exact aa j (by omega);have:=ih (j+1) es (by omega) h2;rw[<-XbA]at this;exact this
    have:=gen n 0 es (by omega) g2;rwa[Nat.add_zero]at this
  |succ id=>rw[XaP]at C;by_cases hid:id<fr.length;rw[Xam hid]at C;rw[I (id+1) (by omega)]at ho;exact RM.mono hle (λ_ _ _=>rfl) (hs.hp.row (id+1) sm o (by rw[XaP];exact C) ho);rw[Xaz (by omega),XaN]at C;have R:=(Xae.1 C).1;rw[Zaq,XaM]at R;rw[ZcH (by rw[XaM];exact R),List.getElem_replicate]at C;cases C;rw[show id+1=(id-fr.length)+p by omega,aa _ R]at ho;cases ho;rfl
 intro id ah sm ae a af h1 h2 h3 h4 h5 h6;have R: ∀ {j:Nat} {sm:SM},ψ[j]? =some (some a)->j<p:=λ{j} {sm} hj=>by by_cases h:j<p;exact h;exfalso;have U:(φ++List.replicate n none)[j]? =some (some a):=hj;rw[Xaz (by omega),Xbn]at U;split at U<;>cases U
 have b1:=R (sm:=sm) h5;have b2:=R (sm:=ae) h6;rw[I _ b1]at h5;rw[I _ b2]at h6;have old: ∀ {j:Nat} {m:SM},j<p->live m=true->(SM.many (.l ct) (Zaz p (List.replicate n ([]:List ct.D))) true::(fr++(ZaU ct (List.replicate n [])++ [])))[j]? =some m-> ∃m',(SM.many (.l ct) (List.replicate n SV.nils) true::fr)[j]? =some m'/\live m'=true:=by intro j m hj hl hm;cases j with|zero=>exact⟨_,rfl,rfl⟩|succ j=>rw[XaP,Xam (by omega)]at hm;exact⟨m,by rw[XaP];exact hm,hl⟩
 obtain⟨m1,g1,g2⟩:=old b1 h3 h1;obtain⟨m2,g3,g4⟩:=old b2 h4 h2;exact hs.hp.inj _ _ _ _ a af g1 g3 g2 g4 h5 h6
def ZjC {ct:CT}: ∀ys:List (List ct.D),ZDr (.l ct) (ys.map λx=>SV.v (.l ct) x)=some ys
 | []=>rfl
 |x::r=>by have e:Zb3 (.l ct) [.v (.l ct) x]=some x:=(by show(if h:ceq ct ct=true then some (Zgv ct ct h x)else none)=some x;rw[dif_pos (Ze9 ct)];rfl);rw[XaX,ZDr,e,ZjC r]
def ZgR {ct:CT} {m:Nat}: ∀ {ys:List (List ct.D)} {q:Nat} {k:List SV->Prop},(∀j (J:j<ys.length),nth hp (j+q)=some (.row ct ys[j] true))->k (ys.map λx=>SV.v (.l ct) x)->Zds (ZdB hp (m+2)) (Zaz q ys) k
 | [],_,_,_,I=>I
 |x::r,q,k,R,I=>by have C:=R 0 (Nat.succ_pos _);rw[Xak]at C;have C:nth hp q=some (.row ct x true):=C;simp only[Zaz,Zds,ZdB,C];refine⟨by omega, ?_⟩;rw[show sub x 0 x.length=x by rw[sub,XaV,XaA (Xag _)]];refine ZgR (ys:=r) (q:=q+1) (λj J=> ?_) I;have:=R (j+1) (Nat.succ_lt_succ J);rw[show j+(q+1)=j+1+q by omega];exact this
def ZC2 {ct:CT} {fr ex:List SM} {xs:List (List ct.D)} {p n m:Nat} {b:Bool} {o:Option Nat} {k:SV->Prop} (C:p=fr.length+1) (R:n=xs.length) (I:k (.v (.l (.l ct)) xs)):ZdB (.many (.l ct) (Zaz p xs) b::(fr++(ZaU ct xs++ex))) (m+3) (.ref 0 0 n o) k:=by simp only[ZdB,nth];refine⟨by rw[ZaI];omega, ?_⟩;rw[show sub (Zaz p xs) 0 n=Zaz p xs by rw[sub,XaV,XaA (by rw[ZaI];omega)]];refine ZgR (λj J=>Zxk J C) ?_;rw[ZjC];exact I
def ZAO {f:FuncId} {V:SV} {k:SV->List SM->Prop} (j:h.opn f=false) (hi:h.imp f=false) (hm:h.mem f=true) (he:ZdB hp 40 V λv=>PureOK P h f [v] λW=>k W (frzT hp (ZdX hp [V]))):Zb1 P h f [V] hp k:=by simp only[Zb1,j,hi,hm,ZyL,Zds];exact he
def Zy0 {F:Nat} {tm tm':TM} {ct:CT} {fr ex:List SM} {xs:List (List ct.D)} {i i' n' e L p:Nat} {y:List ct.D} {d:SM} (j:i'=i) (C:n'=y.length) (R:p=fr.length+1) (hi:i<xs.length) (U:L=fr.length+1+xs.length+e) (hx:ex[e]? =some (.row ct y true)) (hF:F<=p) (I: ∀m∈fr,∀id∈Zes m,id<p) (J:ZBN p tm tm'):
 Ent F tm (.many (.l ct) ((Zaz p xs).set i' (.ref L 0 n' none)) true::(fr++((ZaU ct xs).set i d++ex))) tm' (.many (.l ct) (Zaz p (xs.set i y)) true::(fr++(ZaU ct (xs.set i y)++ []))):=by subst j C;exact ZDX R hi U hx hF I J
def ZGy (tm:TM):TM->Prop
 | []=>True
 |(i,V')::r=>Zck i tm=some V'/\ZGy tm r
def ZmB {tm:TM}: ∀ {tm':TM} {i:Nat} {V:SV},ZGy tm tm'->Zck i tm'=some V->Zck i tm=some V
 | [],_,_,_,h=>by cases h
 |(j,W)::r,i,V,I,h=>by simp only[Zck]at h;cases C:Nat.beq i j with|true=>rw[C]at h;cases h;rw[Xar C];exact I.1|false=>rw[C]at h;exact ZmB I.2 h
def Zae {F:Nat} {tm tm':TM} (j:ZGy tm tm'):Ent F tm hp tm' hp:=
 ⟨λφ st _ C=>⟨φ,Fr.refl F φ,λi V hi=>C.tm i V (ZmB j hi),C.hp⟩⟩
def Ent.trans {F:Nat} {tm tm1 j:TM} {hp hp1 C:List SM} (U:Ent F tm hp tm1 hp1) (h2:Ent F tm1 hp1 j C):Ent F tm hp j C:=by refine⟨λφ st R hs=> ?_⟩;obtain⟨I,g1,g2⟩:=U.out φ st R hs;obtain⟨J,g3,g4⟩:=h2.out I st (by cases F with|zero=>exact Xap _|succ n=>have e:=g1 n (XaS n);rw[Xad (show n<φ.length from R)]at e;exact(Xae.1 e).1) g2;exact⟨J,g1.trans g3,g4⟩
def ZiA {c:Call} {f:FuncId} {V:SV} {k:SV->List SM->Prop} (j:op= .call c) (C:c.callee= .value (.func f)) (I:evL tm c.args.toList=some [V]) (J:h.opn f=false) (R:h.imp f=false) (U:h.mem f=true) (he:ZdB hp 40 V λv=>PureOK P h f [v] λW=>k W (frzT hp (ZdX hp [V]))):opT P h T op tm hp k:=by subst j;simp only[opT,ZfU,I,C];exact ZAO J R U he
def ZbW {tm tm':TM} (C:ZBN 0 tm tm'):Ent 0 tm hp tm' []:=by refine Zfv id (Xag 0) (λ_ _=>rfl) (λj I=>absurd I (Xa1 j)) (λi j hi=>absurd hi (Xa1 i)) (Zks (λ_ _=>rfl) (Xag 0) C) λj m hm=> ?_;simp at hm
structure CodeOK (P:Program) (h:Hints) (F:Nat) (c:Cx) (b:Code) (tm:TM) (hp:List SM) (k:Ex->TM->List SM->Prop):Prop where
 out: ∀φ st,F<=φ.length->SRep φ tm hp st-> ∃e st' φ' tm' hp',exS P h (lim P h) c b st=some (e,st')/\Fr F φ φ'/\SRep φ' tm' hp' st'/\k e tm' hp'
def Zag (hT:TysOK P T) {c:Cx} {b:Code} {k:Ex->TM->List SM->Prop} (hw:wp P h T F c b tm hp k):CodeOK P h F c b tm hp k:=⟨λφ st j C=>Zo5 hT c b tm hp k φ st hw j C⟩
def Zah {c:Cx} {a b:Code} {k:Ex->TM->List SM->Prop} (hw:CodeOK P h F c a tm hp (ZEA k λtm' hp'=>CodeOK P h F c b tm' hp' k)):CodeOK P h F c (.seq a b) tm hp k:=by refine⟨λφ st hF hs=> ?_⟩;obtain⟨e,st1,C,tm1,hp1,J,I,R,U⟩:=hw.out φ st hF hs;cases e with|normal=>obtain⟨e,aa,φ',tm',hp',g1,g2,g3,g4⟩:=CodeOK.out U C st1 (I.len hF) R;exact⟨e,aa,φ',tm',hp',by simp only[exS,J,Xaa,ZgA,g1],I.trans g2,g3,g4⟩|exit j=>exact⟨_,st1,C,tm1,hp1,by simp only[exS,J,Xaa,ZgA],I,R,U⟩|ret=>exact⟨_,st1,C,tm1,hp1,by simp only[exS,J,Xaa,ZgA],I,R,U⟩
def CodeOK.ent {c:Cx} {b:Code} {k:Ex->TM->List SM->Prop} {tm':TM} {hp':List SM} (R:CodeOK P h F c b tm' hp' k) (he:Ent F tm hp tm' hp'):CodeOK P h F c b tm hp k:=
 ⟨λφ st I U=>by obtain⟨j,J,h2⟩:=he.out φ st I U;obtain⟨e,C,φ',tm',hp',f1,f2,f3,f4⟩:=R.out j st (J.len I) h2;exact⟨e,C,φ',tm',hp',f1,J.trans f2,f3,f4⟩⟩
def Zgu (hT:TysOK P T) {f:FuncId} {fn:Func} {code:Code} {Vs:List SV} {Q:SV->Prop} (j:h.ok f=true) (hp:h.prim f=none) (hf:P.funcs[f]? =some fn) (U:fn.body=some code) (hn:Vs.length<=fn.ntmps)
 (hw:CodeOK P h 0 ⟨f,0,fn.ntmps⟩ code (Zch 0 Vs) [] (ZnZ T fn.results.toList λV hp=>ZdB hp 40 V Q)):PureOK P h f Vs Q:=by
 refine⟨λqs J=> ?_⟩;obtain⟨e,C,φ',tm',hp',h1,h2,R,h4⟩:=hw.out [] ⟨enterT 0 qs,[]⟩ (Xap _) ⟨Zd2 J,RH.empty⟩;obtain⟨v,V,h5,h6,h7⟩:=ZnM hT R h4;have I:(lim P h).rn f qs []=some (v,C.hp):=by refine Zs8 j hf U (by rw[<-J.len];exact hn) ?_;show(exS P h (lim P h) ⟨f,0,fn.ntmps⟩ code ⟨enterT 0 qs,[]⟩).bind _=_;rw[h1,Xaa];exact h5
 obtain⟨q',V',g1,g2,g3,_⟩:=Zk0 R.hp 40 V v Q h7 h6;refine⟨q',V', ?_,g2,g3⟩;simp only[ZbT,hp,I,Xaa];exact g1
def ZwR:Nat->Code->Code
 |0,c=>c
 |n+1, .seq _ b=>ZwR n b
 |_,c=>c
def ZcK {id i n m:Nat} {o:Option Nat} {ct:CT} {l:List ct.D} {b:Bool} {k:SV->Prop} (j:nth hp id=some (.row ct l b)) (C:i+n<=l.length) (I:k (.v (.l ct) (sub l i n))):ZdB hp (m+2) (.ref id i n o) k:=by simp only[ZdB,j];exact⟨C,I⟩
def Zvk {c:Call} {f:FuncId} {id i n:Nat} {o:Option Nat} {ct:CT} {l:List ct.D} {b:Bool} {t:CT} {x:t.D} {k:SV->List SM->Prop} (C:op= .call c) (I:c.callee= .value (.func f)) (J:evL tm c.args.toList=some [.ref id i n o, .v t x]) (R:h.opn f=false) (U:h.imp f=true) (j:nth hp id=some (.row ct l b)) (hl:i+n<=l.length)
 (he:ImpOK P h f [.v (.l ct) (sub l i n), .v t x] λV j sf=>k (shS hp.length V) ((match sf with|true=>hp|false=>frzT hp (ZdX hp [.ref id i n o, .v t x]))++Zt2 hp.length j)):opT P h T op tm hp k:=by subst C;simp only[opT,ZfU,J,I,Zb1,R,U,ZyL,Zds];exact ZcK (m:=38) j hl he
def Zam {a b:Operand} {t e:TypeId} {kk:IntKind} {j:Int} {id i n:Nat} {o:Option Nat} {ct:CT} {l:List ct.D} {bb:Bool} {k:SV->List SM->Prop} (I:op= .indexAddr t a b) (J:evS tm a=some (.ref id i n o)) (R:evS tm b=some (.v (.i kk) j)) (C:(T t).k= .slice e) (U:ZcO (T e).k=false) (hn:nth hp id=some (.row ct l bb)) (hz:Nat.beq ct.w (T e).sz=true) (hj:0<=j/\j<n) (hk:k (.ptr id (i+j.toNat) 0) hp):opT P h T op tm hp k:=by subst I;simp only[opT,J,R,Ze0,C];generalize aa:(T e).k=q at*;cases q<;>first|(cases U;done)|exact ZDH hn hz hj hk
def Zav {a b:Operand} {t e:TypeId} {kk:IntKind} {j:Int} {id i n:Nat} {o:Option Nat} {ct:CT} {l:List SV} {bb:Bool} {k:SV->List SM->Prop} (I:op= .indexAddr t a b) (J:evS tm a=some (.ref id i n o)) (R:evS tm b=some (.v (.i kk) j)) (C:(T t).k= .slice e) (U:ZcO (T e).k=false) (hn:nth hp id=some (.many ct l bb)) (hz:Nat.beq 1 (T e).sz=true) (hj:0<=j/\j<n) (hk:k (.ptr id (i+j.toNat) 0) hp):opT P h T op tm hp k:=by
 subst I;simp only[opT,J,R,Ze0,C];have hg:ixT (T e).sz hp (.ref id i n o) j (λV=>k V hp):=by simp only[ixT,hn];rw[hz];exact⟨hj,hk⟩
 generalize aa:(T e).k=q at*;cases q<;>first|(cases U;done)|exact hg
def ZeN {a b:Operand} {t:TypeId} {id i:Nat} {x:SV} {ct:CT} {l:List SV} {k:SV->List SM->Prop} (j:op= .store t a b) (C:evS tm a=some (.ptr id i 0)) (I:evS tm b=some x) (J:nth hp id=some (.many ct l true)) (R:(ZbB x&&Nat.beq (Zbr x).length (T t).sz)=true) (U:ZrM x=true) (h3:ZcO (T t).k=false) (hi:i<l.length) (hk:k (.tup []) (hp.set id (.many ct (l.set i x) true))):opT P h T op tm hp k:=by subst j;simp only[opT,C,I,Zjk,R,J];refine⟨hi, ?_⟩;rw[U];generalize(T t).k=q at*;cases q<;>first|(cases h3;done)|exact hk
def ZaG {a:Operand} {t:TypeId} {id i:Nat} {V:SV} {ct:CT} {l:List SV} {bb:Bool} {k:SV->List SM->Prop} (j:op= .load t a) (C:evS tm a=some (.ptr id i 0)) (I:nth hp id=some (.many ct l bb)) (J:l[i]? =some V) (R:Zhl (T t) [V] 0=some V) (U:k V hp):opT P h T op tm hp k:=by subst j;simp only[opT,C,Zm0,I];exact⟨V,J,by rw[R];exact U⟩
end
def ZDY {p q:Prop} (h:q) (k:q->p:=by
 intro h;repeat (first|refine ZkX ?_|refine Zeh ?_|refine ZcA ?_)
 first|((repeat first|with_reducible refine Zbi ?_|((with_reducible refine ZkE ?_ ?_);rfl));exact Ziw rfl rfl h)|exact Zbi (Ziw rfl rfl h)|exact Zbi (Zbi (Ziw rfl rfl h))):p:=k h
def ZJw {p q:Prop} (h:q) (k:q->p:=by
 intro h;repeat (first|refine ZkX ?_|refine Zeh ?_|refine ZcA ?_)
 first|((repeat first|with_reducible refine Zbi ?_|((with_reducible refine ZkE ?_ ?_);rfl));exact Zif rfl rfl rfl rfl h)|exact Zbi (Zif rfl rfl rfl rfl h)|exact Zbi (Zbi (Zif rfl rfl rfl rfl h))):p:=k h
def ZEF {p q:Prop} (h:q) (k:q->p:=by
 intro h;refine ZCC ?_;repeat (first|refine Zeh ?_|refine ZcA ?_)
 exact h):p:=k h
end Go.Tx

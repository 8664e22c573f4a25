/- The program logic: code, loops, functions. -/
import Derived.Test.YtplkkbcnilnfaaaGreatDoorTx6
set_option linter.all false
namespace Go.Tx
open Go.Am
section
variable {P:Program} {h:Hints} {T:TypeId->TI} {φ:Ph} {hp:List SM} {tm:TM} {F:Nat}
def ZfH (i d:Nat) (V:SV) (tm:TM):Zck i ((d,V)::tm)=bif Nat.beq i d then some V else Zck i tm:=rfl
def SRep.put {st:St} (j:SRep φ tm hp st) {V:SV} {q:PV} (I:RV φ V q) (d:Nat):SRep φ ((d,V)::tm) hp ⟨(d,q)::st.tm,st.hp⟩:=by
 refine⟨λi W hW=> ?_,j.hp⟩;rw[ZfH]at hW;show ∃J,(bif Nat.beq i d then some q else Am.get st.tm i)=some J/\_
 cases C:Nat.beq i d with|true=>rw[C]at hW;cases hW;exact⟨q,rfl,I⟩|false=>rw[C]at hW;exact j.tm i W hW
def SRep.mono {st:St} (j:SRep φ tm hp st) {φ':Ph} (C:Le φ φ') {hp':List SM} {H':List Mem} (I:RH φ' hp' (λa=>H'[a]?)):SRep φ' tm hp' ⟨st.tm,H'⟩:=
 ⟨λi V J=>by obtain⟨q,R,U⟩:=j.tm i V J;exact⟨q,R,RV.mono C V q U⟩,I⟩
def SRep.ev {st:St} (hs:SRep φ tm hp st):ZuZ φ tm (ev st.tm):=by
 have I: ∀v V,Znf v=some V-> ∃q,ZgJ v=some q/\RV φ V q:=by
  intro v V C;unfold Znf at C;split at C<;>first
   |(cases C;exact⟨.nilp,rfl,by simp only[RV]⟩)
   |(cases C;exact⟨.nils,rfl,by simp only[RV]⟩)
   |(cases C;exact⟨.nilf,rfl,by simp only[RV]⟩)
   |(cases C;exact⟨.nili,rfl,by simp only[RV]⟩)
   |(cases C;exact⟨.nilm,rfl,by simp only[RV]⟩)
   |(cases C;exact⟨_,rfl,vb _⟩)
   |(cases C;exact⟨_,rfl,vi _ _⟩)
   |(cases C;exact⟨_,rfl,vs' _⟩)
   |(cases C;done)
 intro x V j;cases x with
 |tmp t=>exact hs.tm t V j
 |const v=>
  change Zvf v=some V at j;show ∃q,Zqd v=some q/\_
  unfold Zvf at j;split at j;rename_i cs;have lst: ∀ (l:List Value) (Vs:List SV),ZjG l=some Vs-> ∃qs,Za4 ZgJ l=some qs/\RL φ Vs qs:=by intro l;induction l with|nil=>intro Vs h;cases h;exact⟨[],rfl,by simp only[RL]⟩|cons v r ih=>intro Vs h;simp only[ZjG]at h;split at h;rename_i x j;split at h;rename_i y hy;cases h;obtain⟨q,J,R⟩:=I v x j;obtain⟨qs,h3,h4⟩:=ih y hy;exact⟨q::qs,by rw[Zbh,J,h3];rfl,by simp only[RL];exact⟨_,_,rfl,R,h4⟩⟩;cases h;cases h
  split at j;rename_i l hl;cases j;obtain⟨qs,J,R⟩:=lst _ _ hl;exact⟨.agg qs,by simp only[Zqd,J,Xal],by simp only[RV];exact⟨_,rfl,R⟩⟩;cases j;rename_i U;(have e:Zqd v=ZgJ v:=by cases v<;>first|rfl|exact absurd rfl (U _));rw[e];exact I v V j
 |global g=>cases j
 |func f=>cases j;exact⟨.func f [] [],rfl,by simp only[RV,RL];exact⟨_,_,rfl,rfl,rfl⟩⟩
def ZmW {st:St} (I:SRep φ tm hp st) {V:SV} {q:PV} (J:RV φ V q) {N:Nat} {dst:Option Tmp} {k:TM->Prop} (j:ZcR N dst V tm k): ∃tm0 tm',Zf2 N dst q st.tm=some tm0/\SRep φ tm' hp ⟨tm0,st.hp⟩/\k tm':=by unfold ZcR at j;split at j;exact⟨st.tm,tm,rfl,I,j⟩;rename_i d;split at j;rename_i C;have C:d+1<=N:=Xao C;exact⟨(d,q)::st.tm,(d,V)::tm,if_pos (Nat.lt_of_succ_le C),I.put J d,j⟩;cases j
def ZmY (hT:TysOK P T) {N:Nat} {ds:List (Option Tmp)}: ∀ (l:List Oper) (tm:TM) (hp:List SM) (k:TM->List SM->Prop) (φ:Ph) (st:St),wpOps P h T N ds l tm hp k->SRep φ tm hp st->
 ∃C φ' tm' hp',ZeV P h (lim P h) N ds l st=some C/\Le φ φ'/\SRep φ' tm' hp' C/\k tm' hp'
 | [],tm,hp,k,φ,st,hw,I=>⟨st,φ,tm,hp,rfl,Le.refl φ,I,hw⟩
 |⟨dst,op,ty,pos,after,g⟩::l,tm,hp,k,φ,⟨t0,H⟩,hw,I=>by
  have run:opT P h T op tm hp (λV hp'=>ZcR N dst V tm λtm'=>wpOps P h T N ds l tm' hp' k)-> ∃C φ' tm' hp',Zu1 P h (lim P h) N ds dst l t0 (opE P h (lim P h) H (ev t0) op)=some C/\Le φ φ'/\SRep φ' tm' hp' C/\k tm' hp':=by intro ho;obtain⟨q,H',ae,V,hp1,h1,J,h3,h4,h5⟩:=Zxs hT I.hp I.ev ho;have af:=I.mono J h3;obtain⟨tm0,tm',h6,h7,h8⟩:=ZmW af h4 h5;obtain⟨C,φ',R,U,h9,aa,ab,ad⟩:=ZmY hT l tm' hp1 k ae _ h8 h7;refine⟨C,φ',R,U, ?_,J.trans aa,ab,ad⟩;rw[h1];simp only[Zu1,Xaa];rw[show Zf2 N dst q t0=some tm0 from h6];exact h9
  have skip:ZcR N dst (.tup []) tm (λtm'=>wpOps P h T N ds l tm' hp k)-> ∃C φ' tm' hp',Zu1 P h (lim P h) N ds dst l t0 (some (.tup [],H))=some C/\Le φ φ'/\SRep φ' tm' hp' C/\k tm' hp':=by intro ho;obtain⟨tm0,tm',h6,h7,h8⟩:=ZmW I (V:= .tup []) (q:= .tup []) (by simp only[RV,RL];exact⟨_,rfl,rfl⟩) ho;obtain⟨C,φ',R,U,h9,aa,ab,ad⟩:=ZmY hT l tm' hp k φ _ h8 h7;refine⟨C,φ',R,U, ?_,aa,ab,ad⟩;simp only[Zu1,Xaa];rw[show Zf2 N dst (.tup []) t0=some tm0 from h6];exact h9
  cases g with|none=>rw[ZGM];exact run hw|some jw=>obtain⟨j,w⟩:=jw;rw[Zwy,ZEg];simp only[wpOps]at hw;split at hw;rename_i d hd;rw[ZaK]at hd;split at hw;rename_i t ht;obtain⟨q,h1,J⟩:=I.tm _ _ ht;rw[ZfG J]at h1;simp only[hd,Xaa,id,show Am.get t0 d=_ from h1,ZDB];(cases hb:t==w with|true=>rw[Zvp];exact run (hw.1 (by simpa using hb))|false=>rw[Zma];exact skip (hw.2 (by cases t<;>cases w<;>simp at hb|-)));rename_i ht;obtain⟨q,h1,J⟩:=I.tm _ _ ht;simp only[RV,RL]at J;obtain⟨_,rfl,rfl⟩:=J;simp only[hd,Xaa,id,show Am.get t0 d=_ from h1,ZDB];rw[Zma];exact skip hw;cases hw;cases hw
def Znw {id j:Nat}: ∀ {l:List Nat},ZvQ id l=false->j∈l->id≠j
 |i::r,h,hj=>by simp only[ZvQ]at h;split at h;cases h;rename_i C;rcases Xau.1 hj with rfl|hj;intro e;subst e;simp at C;exact Znw h hj
def Zip {j:Nat}: ∀ {l:List Nat},Zk4 hp l=true->j∈l->Zmg hp j=true
 |i::r,h,hj=>by simp only[Zk4,Xah]at h;rcases Xau.1 hj with rfl|hj;exact h.1;exact Zip h.2 hj
def Zfe {id:Nat} (h:Zmg hp id=true): ∃m,hp[id]? =some m/\live m=true:=by unfold Zmg at h;split at h;rename_i m hm;rw[ZaK]at hm;exact⟨m,hm,h⟩;cases h
def Zi9 {H H':List Mem} {t:TypeId} {a i r b:Nat} {x:PV} (j:Zdc P H t (.ptr a i r) x=some H') (J:b≠a):H'[b]? =H[b]? :=by
 unfold Zdc at j;simp only at j;split at j;rename_i es z he;cases C:es[i]? with|none=>simp[C]at j|some c=>cases I:Zbe P t with|none=>simp[C,I]at j|some n=>simp only[C,I,Xaa]at j;split at j;cases j;rw[XaD (Ne.symm J)];cases j
 cases j
def ZAe {H H':List Mem} {t:TypeId} {a i r b:Nat} {x:PV} {es:List (List PV)} {z:Nat} {m:Bool} (j:Zdc P H t (.ptr a i r) x=some H') (I:H[b]? =some (.row es z m)): ∃es' U,H'[b]? =some (.row es' z U):=by
 by_cases C:b=a;subst C;unfold Zdc at j;simp only[I]at j;split at j;rename_i aa z2 he;cases he;have hl:=(Xae.1 I).1;cases J:es[i]? with|none=>simp[J]at j|some c=>cases R:Zbe P t with|none=>simp[J,R]at j|some n=>simp only[J,R,Xaa]at j;split at j;cases j;exact⟨_,true,XaE hl⟩;cases j
 cases j;exact⟨es,m,by rw[Zi9 j C];exact I⟩
def ZHV (P:Program) (φ:Ph) (ks:List (Nat×Nat×Bool)) (H:List Mem) (x:Nat×Oper×List (Nat×PV)×PV):Prop:=
 ∃dst op ty pos after g,x.2.1=⟨dst,op,ty,pos,after,g⟩/\
  ((∀ (h:Hints) (E:Ev) (H':List Mem),ZaR P h E H' (Am.ev x.2.2.1) ⟨dst,op,ty,pos,after,g⟩=some x.2.2.2)\/
   (∃t y j es C,op= .indexAddr t y j/\Am.ev x.2.2.1 y=some (.lst es)/\Am.ev x.2.2.1 j=some C/\Zao P H t (.lst es) C=some x.2.2.2)\/
   (∃t y j place i n m C id,op= .indexAddr t y j/\Am.ev x.2.2.1 y=some (.ref place i n m)/\Am.ev x.2.2.1 j=some C/\(x.1,id,false)∈ks/\φ[id]? =some (some place)/\Zao P H t (.ref place i n m) C=some x.2.2.2)\/
   (∃t a c r,op= .load t a/\Am.ev x.2.2.1 a=some (.box c r)/\ZdU P t c r=some x.2.2.2)\/
   (∃t a place i r id,op= .load t a/\Am.ev x.2.2.1 a=some (.ptr place i r)/\(x.1,id,true)∈ks/\φ[id]? =some (some place)/\Zb2 P H t (.ptr place i r)=some x.2.2.2))
def Accs (P:Program) (φ:Ph) (ks:List (Nat×Nat×Bool)) (H:List Mem) (acc:List (Nat×Oper×List (Nat×PV)×PV)):Prop:= ∀x∈acc,ZHV P φ ks H x
def Ztg {ks:List (Nat×Nat×Bool)} {H:List Mem}: ∀ {acc:List (Nat×Oper×List (Nat×PV)×PV)},Accs P φ ks H acc->ZdY P h (lim P h) acc H=some ()
 | [],_=>rfl
 |(n,o,tm0,v)::acc,R=>by
  have U:ZdY P h (lim P h) acc H=some ():=Ztg λx hx=>R x (Xaj _ hx);obtain⟨dst,op,ty,pos,after,g,rfl,hc⟩:=R _ Xai;have fin: ∀ {r:Option PV},r=some v->ZrB P h (lim P h) acc H v r=some ():=λh=>by rw[h,Zqa _ _ _ _ (Zrc v)];exact U
  rw[Zuz];rcases hc with C|⟨t,y,j,es,jv,rfl,C,I,J⟩|⟨t,y,j,place,i,n,m,jv,id,rfl,C,I,_,_,J⟩|⟨t,a,c,r,rfl,C,I⟩|⟨t,a,place,i,r,id,rfl,C,_,_,I⟩;exact fin (C _ _ _);rw[ZbO];refine fin ?_;simp only at C I J;simp only[Za5,C,I,Xaa,J];rw[ZbO];refine fin ?_;simp only at C I J;simp only[Za5,C,I,Xaa,J];rw[Zga];refine fin ?_;simp only at C I;simp only[Zlg,C,Xaa,Zb2,I];rw[Zga];refine fin ?_;simp only at C I;simp only[Zlg,C,Xaa,I]
def Keeps (H H':List Mem):Prop:= ∀ (a:Nat) (es:List (List PV)) (z:Nat) (m:Bool),H[a]? =some (.row es z m)-> ∃j,H'[a]? =some (.row es z j)
def Keeps.refl (H:List Mem):Keeps H H:=λ_ _ _ m h=>⟨m,h⟩
def Zjf (ids:List Nat) (H rows:List Mem):Keeps H (Am.freeze ids H++rows):=by intro a es z m h;obtain⟨J,I,j⟩:=ZdC ids H a _ h;have R:=(Xae.1 I).1;cases J with|row es' z' C=>simp only[simM]at j;obtain⟨rfl,rfl⟩:=j;exact⟨C,by rw[Xam R];exact I⟩|_=>simp[simM]at j
def Zlp {H:List Mem} {v:Option PV} {q:PV} {H':List Mem} (h:Zcm H v=some (q,H')):Keeps H H':=by cases v with|none=>cases h|some v=>cases h;exact Keeps.refl H
def Zmf {H:List Mem} {r:Res} {q:PV} {H':List Mem} (h:ZeI H r=some (q,H')):Keeps H H':=by cases r with|none=>cases h|some x=>cases h;exact Zjf _ _ _
def Zq7 {H:List Mem} {ρ:Operand->Option PV} {E:Ev} {dst:Option Tmp} {op:Op} {ty:TypeId} {pos:String} {after:Array Edge} {g:Option (Nat×Bool)} {q:PV} {H':List Mem} (hw:isW h ⟨dst,op,ty,pos,after,g⟩=false) (j:opE P h E H ρ op=some (q,H')):Keeps H H':=by
 cases op<;>first
  |exact Zlp j
  |exact Zmf j
  |(cases j;done)
  |(cases hw;done)
  |skip
 rename_i c;have j:Zh7 P h E H ρ c=some (q,H'):=j;have hw:ZGS h c=false:=hw;unfold Zh7 at j;unfold ZGS at hw;split at j
 ·rename_i b I;rw[I]at hw;cases b<;>first
   |exact Zlp j
   |(cases hw;done)
 rename_i f hf;rw[hf]at hw;have hw:h.opn f=false:=hw;rw[hw]at j;exact Zmf j;rename_i x J R;rw[R]at hw;split at hw;rename_i C;cases C;rename_i f C;cases C;exact absurd rfl (J _);cases hw;cases j
def Zu6 {H:List Mem} {ρ:Operand->Option PV} {E:Ev} {c:Call} {q:PV} {H':List Mem} (I:ZuZ φ tm ρ) (hd:ZHI h tm c=true) (j:opE P h E H ρ (.call c)=some (q,H')):Keeps H H':=by
 have j:Zh7 P h E H ρ c=some (q,H'):=j;unfold ZHI at hd;unfold Zh7 at j;split at hd;cases hd;rename_i x J hx;rw[hx]at j;split at hd;rename_i f a cc R;obtain⟨p,hp1,C⟩:=I _ _ R;simp only[RV]at C;obtain⟨a',c',rfl,_,_⟩:=C;have U:h.opn f=false:=by simpa using hd
 have j:ZuX h E H ρ x c=some (q,H'):=by
    cases x<;>first
     |exact j
     |exact absurd rfl (J _)
 unfold ZuX at j;rw[hp1]at j;simp only[Xaa]at j;cases hv:Za4 ρ c.args.toList with|none=>simp[hv]at j|some vs=>simp only[hv,Xaa,ZcZ,U,XaO,if_false]at j;obtain⟨r,_,hr⟩:=Option.map_eq_some_iff.1 j;rw[<- (Prod.mk.inj hr).2];exact Zjf _ _ _
 cases hd;cases hd
def Keeps.load {H H':List Mem} (C:Keeps H H') {t:TypeId} {place i r:Nat} {v:PV} (j:Zb2 P H t (.ptr place i r)=some v):Zb2 P H' t (.ptr place i r)=some v:=by unfold Zb2 at j|-;simp only at j|-;split at j;rename_i es z m hm;obtain⟨J,I⟩:=C _ _ _ _ hm;rw[I];exact j;cases j
def KeepsZ (H H':List Mem) (a:Nat):Prop:= ∀ (es:List (List PV)) (z:Nat) (m:Bool),H[a]? =some (.row es z m)-> ∃es' j,H'[a]? =some (.row es' z j)
def Keeps.z {H H':List Mem} (j:Keeps H H') (a:Nat):KeepsZ H H' a:=λes z m h=>by obtain⟨C,I⟩:=j a es z m h;exact⟨es,C,I⟩
def KeepsZ.index {H H':List Mem} {place:Nat} (R:KeepsZ H H' place) {t:TypeId} {i n m:Nat} {I v:PV} (C:Zao P H t (.ref place i n m) I=some v):Zao P H' t (.ref place i n m) I=some v:=by cases I with|int kk j=>(cases hu:P.underlying t with|none=>simp[Zao,hu]at C|some u=>cases u with|slice e=>(cases J:Zbe P e with|none=>simp[Zao,hu,J]at C|some z=>simp only[Zao,hu,J,Xaa]at C|-;split at C;rename_i U;rw[if_pos U];split at C;rename_i es z' m' hm;obtain⟨es',aa,h2⟩:=R _ _ _ hm;rw[h2];exact C;cases C;cases C)|_=>simp[Zao,hu]at C)|_=>simp[Zao]at C
def Zu5 {H H':List Mem} {t:TypeId} {a i r:Nat} {b:Option PV} {v:PV} (j:Za5 P H t (some (.ptr a i r)) b=some v):Za5 P H' t (some (.ptr a i r)) b=some v:=by
 rw[<-j];cases b with
 |none=>simp only[Za5,Xaa,Option.bind_none]
 |some C=>
  simp only[Za5,Xaa];unfold Zao;cases C<;>first
   |rfl
   |(cases P.underlying t with
     |none=>rfl
     |some u=>cases u<;>rfl)
def ZxL {H H':List Mem} {t:TypeId} {es:List (List PV)} {I v:PV} (C:Zao P H t (.lst es) I=some v):Zao P H' t (.lst es) I=some v:=by
 cases I with
 |int kk j=>
  cases hu:P.underlying t with
  |none=>simp[Zao,hu]at C
  |some u=>cases u<;>first
   |(simp only[Zao,hu]at C|-;exact C)
   |(simp[Zao,hu]at C;done)
 |_=>simp[Zao]at C
def Zyk {o:Oper} {acc:List (Nat×Oper×List (Nat×PV)×PV)} {x:Nat×Oper×List (Nat×PV)×PV} (hx:x∈Zcw h o acc):x∈acc/\(isW h o=true->Zev o x.1=false):=by refine⟨Zw0 hx,λhw=> ?_⟩;unfold Zcw at hx;rw[hw,cond_true]at hx;clear hw;induction acc with|nil=>cases hx|cons y acc C=>have hx:x∈(bif Zev o y.1 then _ else y::_:List _):=hx;cases j:Zev o y.1 with|true=>rw[j,cond_true]at hx;exact C hx|false=>rw[j,cond_false]at hx;rcases Xau.1 hx with rfl|hx;exact j;exact C hx
def Zkj {o:Oper} {y:Nat×Nat×Bool} (j:Zev o y.1=false): ∀ {ks:List (Nat×Nat×Bool)},y∈ks->y∈ZvC o ks
 |x::r,hm=>by simp only[ZvC];rcases Xau.1 hm with rfl|hm;rw[j];exact Xai;split;exact Zkj j hm;exact Xaj _ (Zkj j hm)
def Zog {o:Oper} {y:Nat×Nat×Bool} {ks:List (Nat×Nat×Bool)} (hm:y∈ks) (j:isW h o=true->Zev o y.1=false):y∈ZqC h o ks:=by unfold ZqC;split;rename_i hw;exact Zkj (j hw) hm;exact hm
def Accs.drop {o:Oper} {ks:List (Nat×Nat×Bool)} {H:List Mem} {acc:List (Nat×Oper×List (Nat×PV)×PV)} (ha:Accs P φ ks H acc):Accs P φ (ZqC h o ks) H (Zcw h o acc):=by intro x hx;obtain⟨h1,h2⟩:=Zyk hx;obtain⟨dst,op,ty,pos,after,g,e,hc⟩:=ha x h1;refine⟨dst,op,ty,pos,after,g,e, ?_⟩;rcases hc with hc|hc|⟨t,y,j,place,i,n,m,jv,id,C,I,J,R,U,e6⟩|hc|⟨t,a,place,i,r,id,C,I,J,R,U⟩;exact .inl hc;exact .inr (.inl hc);exact .inr (.inr (.inl ⟨t,y,j,place,i,n,m,jv,id,C,I,J,Zog R h2,U,e6⟩));exact .inr (.inr (.inr (.inl hc)));exact .inr (.inr (.inr (.inr ⟨t,a,place,i,r,id,C,I,Zog J h2,R,U⟩)))
def Accs.more {ks:List (Nat×Nat×Bool)} {H:List Mem} {acc:List (Nat×Oper×List (Nat×PV)×PV)} {φ':Ph} (ha:Accs P φ ks H acc) (hl:Le φ φ') (y:Nat×Nat×Bool):Accs P φ' (y::ks) H acc:=by intro x hx;obtain⟨dst,op,ty,pos,after,g,e,hc⟩:=ha x hx;refine⟨dst,op,ty,pos,after,g,e, ?_⟩;rcases hc with hc|hc|⟨t,y,j,place,i,n,m,jv,id,C,I,J,R,U,e6⟩|hc|⟨t,a,place,i,r,id,C,I,J,R,U⟩;exact .inl hc;exact .inr (.inl hc);exact .inr (.inr (.inl ⟨t,y,j,place,i,n,m,jv,id,C,I,J,Xaj _ R,hl _ _ U,e6⟩));exact .inr (.inr (.inr (.inl hc)));exact .inr (.inr (.inr (.inr ⟨t,a,place,i,r,id,C,I,Xaj _ J,hl _ _ R,U⟩)))
def Accs.mono {ks:List (Nat×Nat×Bool)} {H:List Mem} {acc:List (Nat×Oper×List (Nat×PV)×PV)} {φ':Ph} (ha:Accs P φ ks H acc) (hl:Le φ φ'):Accs P φ' ks H acc:=by intro x hx;obtain⟨dst,op,ty,pos,after,g,e,hc⟩:=ha x hx;refine⟨dst,op,ty,pos,after,g,e, ?_⟩;rcases hc with hc|hc|⟨t,y,j,place,i,n,m,jv,id,C,I,J,R,U,e6⟩|hc|⟨t,a,place,i,r,id,C,I,J,R,U⟩;exact .inl hc;exact .inr (.inl hc);exact .inr (.inr (.inl ⟨t,y,j,place,i,n,m,jv,id,C,I,J,R,hl _ _ U,e6⟩));exact .inr (.inr (.inr (.inl hc)));exact .inr (.inr (.inr (.inr ⟨t,a,place,i,r,id,C,I,J,hl _ _ R,U⟩)))
def Accs.keep {ks:List (Nat×Nat×Bool)} {H H':List Mem} {acc:List (Nat×Oper×List (Nat×PV)×PV)} {φ':Ph} (ha:Accs P φ ks H acc) (hl:Le φ φ') (hz: ∀i id place,(i,id,false)∈ks->φ[id]? =some (some place)->KeepsZ H H' place) (hd: ∀i id place,(i,id,true)∈ks->φ[id]? =some (some place)-> ∀t j r v,Zb2 P H t (.ptr place j r)=some v->Zb2 P H' t (.ptr place j r)=some v):Accs P φ' ks H' acc:=by intro x hx;obtain⟨dst,op,ty,pos,after,g,e,hc⟩:=ha x hx;refine⟨dst,op,ty,pos,after,g,e, ?_⟩;rcases hc with hc|⟨t,y,j,es,jv,J,R,I,C⟩|⟨t,y,j,place,i,n,m,jv,id,J,R,I,C,U,e6⟩|hc|⟨t,a,place,i,r,id,J,R,I,C,U⟩;exact .inl hc;exact .inr (.inl ⟨t,y,j,es,jv,J,R,I,ZxL C⟩);exact .inr (.inr (.inl ⟨t,y,j,place,i,n,m,jv,id,J,R,I,C,hl _ _ U,(hz _ _ _ C U).index e6⟩));exact .inr (.inr (.inr (.inl hc)));exact .inr (.inr (.inr (.inr ⟨t,a,place,i,r,id,J,R,I,hl _ _ C,hd _ _ _ I C _ _ _ _ U⟩)))
def Zge {i id:Nat}: ∀ {ks:List (Nat×Nat×Bool)},(i,id,true)∈ks->id∈ZlP ks
 |(i',j,true)::r,hm=>by rcases Xau.1 hm with e|hm;cases e;exact Xai;exact Xaj _ (Zge hm)
 |(i',j,false)::r,hm=>by rcases Xau.1 hm with e|hm;cases e;show id∈ZlP r;exact Zge hm
def ZtC {L:Nat->Option Mem} {a:Nat} {sm:SM} {z:Nat} (hm:RM φ L (some a) sm) (hw:ZG0 sm=some z): ∃es m,L a=some (.row es z m):=by cases sm with|row t l m=>simp only[RM]at hm;obtain⟨es,j,C,_⟩:=hm;cases hw;exact⟨es,j,C⟩|cell cs m=>simp only[RM]at hm;obtain⟨a',I,j,J,C,R,_⟩:=hm;cases J;cases hw;refine⟨[I],j, ?_⟩;rw[C,R.len]|many ct U m=>simp only[RM]at hm;obtain⟨es,j,C,_⟩:=hm;cases hw;exact⟨es,j,C⟩|set ks=>cases hw|im t ks=>cases hw|dead=>cases hw
def ZoR {hp hp':List SM} {i id:Nat} {b:Bool}: ∀ {ks:List (Nat×Nat×Bool)},ZzB hp hp' ks=true->(i,id,b)∈ks-> ∃sm j z,hp[id]? =some sm/\hp'[id]? =some j/\ZG0 sm=some z/\ZG0 j=some z
 |(i',R,b')::r,h,hm=>by simp only[ZzB]at h;split at h;rename_i x y U hy;simp only[Xah]at h;rcases Xau.1 hm with e|hm;cases e;obtain⟨sm,C,I⟩:=Option.bind_eq_some_iff.1 U;obtain⟨j,J,h4⟩:=Option.bind_eq_some_iff.1 hy;rw[ZaK]at C J;rw[Xar h.1]at I;exact⟨sm,j,_,C,J,I,h4⟩;exact ZoR h.2 hm;cases h
def ZrP {i id:Nat} {b:Bool}: ∀ {ks:List (Nat×Nat×Bool)},(i,id,b)∈ks->id∈ZHk ks
 |(i',j,C)::r,hm=>by rcases Xau.1 hm with e|hm;cases e;exact Xai;exact Xaj _ (ZrP hm)
def Zn8 {H H':List Mem} {place:Nat} (J: ∀ (es:List (List PV)) (z:Nat) (m:Bool),H[place]? =some (.row es z m)-> ∃I,H'[place]? =some (.row es z I)) {t:TypeId} {j r:Nat} {v:PV} (C:Zb2 P H t (.ptr place j r)=some v):Zb2 P H' t (.ptr place j r)=some v:=by simp only[Zb2]at C|-;split at C;rename_i es z m hm;obtain⟨I,R⟩:=J es z m hm;rw[R];exact C;cases C
def Zoa {H H':List Mem} {ρ:Operand->Option PV} {E:Ev} {c:Call} {q:PV} {oi:Option Nat} (aa:ZuZ φ tm ρ) (hd:ZHB tm c=some oi) (ho:opE P h E H ρ (.call c)=some (q,H')):
 ∀place,(∀id,some id=oi->φ[id]?≠some (some place))-> ∀ (es:List (List PV)) (z:Nat) (m:Bool),H[place]? =some (.row es z m)-> ∃m',H'[place]? =some (.row es z m'):=by
 have ho:Zh7 P h E H ρ c=some (q,H'):=ho;unfold ZHB at hd;unfold Zh7 at ho;split at hd;rename_i hc;rw[hc]at ho;have ho:Zet P h H ρ c=some (q,H'):=ho;unfold Zet at ho;obtain⟨vs,h1,g1⟩:=Zai ho;split at g1;rename_i s x;split at hd;rename_i y ys hy;rw[hy]at h1;obtain⟨b,r,h2,h3,h4⟩:=ZaF h1;obtain⟨rfl,rfl⟩:b=s/\r=[x]:=by cases h4;exact⟨rfl,rfl⟩
 have key: ∀ {H1:List Mem} {x1:PV},Zc5 P H1 c.argTypes b x1=some (q,H')-> ∀place,(∀i n m,b= .ref place i n m->False)-> ∀m1,H1[place]? =some m1->H'[place]? =some m1:=by intro H1 x1 C place U m1 J;unfold Zc5 at C;obtain⟨t,_,C⟩:=Zai C;obtain⟨e,_,C⟩:=Zai C;obtain⟨z,_,C⟩:=Zai C;obtain⟨by_,_,C⟩:=Zai C;obtain⟨zero,_,C⟩:=Zai C;obtain⟨new,_,C⟩:=Zai C;obtain⟨_,C⟩:=Zak C;have ab:=(Xae.1 J).1;cases b with|nils=>simp only[Zbz]at C;split at C;cases C;exact J;obtain⟨_,C⟩:=Zak C;cases C;rw[Xam ab];exact J|ref id j n room=>have ad:id≠place:=(by rintro rfl;exact U _ _ _ rfl);simp only[Zbz]at C;split at C;obtain⟨_,C⟩:=Zak C;split at C;cases C;exact J;split at C;obtain⟨_,C⟩:=Zak C;cases C;rw[XaD ad];exact J;obtain⟨_,C⟩:=Zak C;cases C;rw[Xam (by simpa using ab),XaD ad];exact J;cases C|clp es=>(simp only[Zbz]at C;cases hc:(new.isEmpty|| !Zdd es z)with|true=>rw[hc]at C;cases C|false=>rw[hc,cond_false]at C;obtain⟨_,C⟩:=Zak C;cases C;rw[Xam ab];exact J)|_=>simp[Zbz]at C
 intro place ae es z m hm;have U: ∀i n m,b= .ref place i n m->False:=by rintro i n m rfl;split at hd;rename_i R;obtain⟨p,hp1,I⟩:=aa _ _ R;simp only[RV]at I;rw[h2]at hp1;cases hp1;cases I;rename_i id i2 n2 m2 R;obtain⟨p,hp1,I⟩:=aa _ _ R;rw[h2]at hp1;cases hp1;simp only[RV]at I;cases hd;rcases I with⟨a,h5,h6⟩|⟨_,h6,_⟩;cases h6;exact ae _ rfl h5;cases h6;rename_i t xs R;obtain⟨p,hp1,I⟩:=aa _ _ R;rw[h2]at hp1;cases hp1;simp only[RV]at I;rcases I with⟨h6,_⟩|⟨_,h6,_⟩<;>cases h6;cases hd
 unfold Zeu at g1;cases hf:Am.frzT h c.argTypes with|false=>rw[hf,cond_false]at g1;exact⟨m,key g1 place U _ hm⟩|true=>rw[hf,cond_true]at g1;obtain⟨x',_,h7⟩:=Zai g1;obtain⟨m',h8,h9⟩:=ZdC (rch ZaP H x) H place _ hm;cases m'<;>simp[simM]at h9;obtain⟨rfl,rfl⟩:=h9;exact⟨_,key h7 place U _ h8⟩
 cases hd;cases g1;cases hd
def Zkp {H H':List Mem} {t:TypeId} {p:PV} (hp: ∀id,p≠ .map id):ZeS P H' t p=ZeS P H t p:=by unfold ZeS;cases P.underlying t with|none=>rfl|some u=>cases u<;>cases p<;>first|rfl|exact absurd rfl (hp _)
def ZwX {H:List Mem} {ρ:Operand->Option PV} {c:Call} (C:ZuZ φ tm ρ) (J:ZHJ tm c=true): ∃r:List Mem->Option PV,(∀ (h:Hints) (E:Ev) (H:List Mem),opE P h E H ρ (.call c)=Zcm H (r H))/\(∀ (h:Hints) (E:Ev) (H':List Mem) (dst:Option Tmp) (ty:TypeId) (pos:String) (after:Array Edge),ZaR P h E H' ρ ⟨dst, .call c,ty,pos,after,none⟩=r H)/\ ∀H',r H'=r H:=by
 obtain⟨callee,args,ts⟩:=c;cases callee<;>first|(cases J;done)|skip
 case builtin b=>
  have main:(∀H',((Za4 ρ args.toList).bind λvs=>ZbN P H' b ts vs)=(Za4 ρ args.toList).bind λvs=>ZbN P H b ts vs)->(∀ (h:Hints) (E:Ev) (H:List Mem),opE P h E H ρ (.call ⟨.builtin b,args,ts⟩)=Zcm H ((Za4 ρ args.toList).bind λvs=>ZbN P H b ts vs))->_:=λU ho=>
   (⟨λH'=>(Za4 ρ args.toList).bind λvs=>ZbN P H' b ts vs,ho,λ_ E H' dst ty pos after=>(Zcn _).trans (U H'),U⟩: ∃r:List Mem->Option PV,(∀ (h:Hints) (E:Ev) (H:List Mem),opE P h E H ρ (.call ⟨.builtin b,args,ts⟩)=Zcm H (r H))/\(∀ (h:Hints) (E:Ev) (H':List Mem) (dst:Option Tmp) (ty:TypeId) (pos:String) (after:Array Edge),ZaR P h E H' ρ ⟨dst, .call ⟨.builtin b,args,ts⟩,ty,pos,after,none⟩=r H)/\ ∀H',r H'=r H)
  cases b
  case min=>exact main (λH'=>congrArg (Option.bind _) (funext λvs=>by cases vs<;>rfl)) (λ_ _ _=>rfl)
  case max=>exact main (λH'=>congrArg (Option.bind _) (funext λvs=>by cases vs<;>rfl)) (λ_ _ _=>rfl)
  case len=>
   refine main (λH'=> ?_) (λ_ _ _=>rfl)
   simp only[ZHJ]at J
   split at J
   ·rename_i ct xs he
    obtain⟨qs,R,j⟩:=Zkl C he
    rw[R]
    simp only[RL]at j
    obtain⟨q,_,rfl,I,rfl⟩:=j
    have: ∀id,q≠ .map id:=λid e=>by
     rcases ZhW I with⟨rfl,_⟩|⟨es,rfl,_⟩<;>cases e
    simp only[Xaa,ZbN,Zkp (H:=H) (H':=H') this]
   ·rename_i he
    obtain⟨qs,R,j⟩:=Zkl C he
    rw[R]
    simp only[RL]at j
    obtain⟨q,_,rfl,I,rfl⟩:=j
    simp only[RV]at I
    subst I
    have e:=λt=>Zkp (P:=P) (H:=H) (H':=H') (t:=t) (p:= .nils) (λid e=>by cases e)
    simp only[Xaa,ZbN,e]
   ·rename_i he
    obtain⟨qs,R,j⟩:=Zkl C he
    rw[R]
    simp only[RL]at j
    obtain⟨q,_,rfl,I,rfl⟩:=j
    simp only[RV]at I
    have: ∀id,q≠ .map id:=λid e=>by
     rcases I with⟨_,_,rfl⟩|⟨_,rfl,_⟩<;>cases e
    simp only[Xaa,ZbN,Zkp (H:=H) (H':=H') this]
   ·cases J
  all_goals cases J
def Zk7 (hT:TysOK P T) {N:Nat} {ls:List Nat}: ∀ (l:List Oper) (i:Nat) (ks:List (Nat×Nat×Bool)) (tm:TM) (hp:List SM) (k:TM->List SM->Prop) (φ:Ph) (st:St) (acc:List (Nat×Oper×List (Nat×PV)×PV)),ZaD P h T N ls l i ks tm hp k->noG l=true->SRep φ tm hp st->Accs P φ ks st.hp acc->
 ∃ad φ' tm' hp',Zrj P h (lim P h) N ls l i acc st=some ad/\Le φ φ'/\SRep φ' tm' hp' ad/\k tm' hp'
 | [],i,ks,tm,hp,k,φ,st,acc,hw,_,hs,_=>⟨st,φ,tm,hp,rfl,Le.refl φ,hs,hw⟩
 |⟨dst,op,ty,pos,after,some g⟩::l,i,ks,tm,hp,k,φ,st,acc,hw,hg,hs,C=>by cases hg
 |⟨dst,op,ty,pos,after,none⟩::l,i,ks,tm,hp,k,φ,⟨t0,H⟩,acc,hw,hg,hs,C=>by
  have hg:noG l=true:=hg;simp only[ZaD]at hw;split at hw
  ·rename_i hi;have light: ∀ (ks2:List (Nat×Nat×Bool)) (r:Option PV),opE P h (lim P h) H (Am.ev t0) op=Zcm H r->ZaR P h (lim P h) H (Am.ev t0) ⟨dst,op,ty,pos,after,none⟩=r->(∀q I,r=some q->Le φ I->Accs P I ks2 H ((i,⟨dst,op,ty,pos,after,none⟩,t0,q)::acc))->
    opT P h T op tm hp (λV hp'=>ZcR N dst V tm λtm'=>ZaD P h T N ls l (i+1) ks2 tm' hp' k)-> ∃ad φ' tm' hp',Zrj P h (lim P h) N ls (⟨dst,op,ty,pos,after,none⟩::l) i acc ⟨t0,H⟩=some ad/\Le φ φ'/\SRep φ' tm' hp' ad/\k tm' hp':=by
    intro ks2 r hr hl ha ho;obtain⟨q,H',I,V,hp1,h1,h2,h3,h4,h5⟩:=Zxs hT hs.hp hs.ev ho;rw[hr]at h1;cases r with|none=>cases h1|some q'=>obtain⟨rfl,rfl⟩:q'=q/\H=H':=(by cases h1;exact⟨rfl,rfl⟩);have an:=hs.mono h2 h3;obtain⟨tm0,tm',h6,h7,h8⟩:=ZmW an h4 h5;obtain⟨ad,φ',ao,R,h9,aq,ar,au⟩:=Zk7 hT l (i+1) ks2 tm' hp1 k I _ ((i,⟨dst,op,ty,pos,after,none⟩,t0,q')::acc) h8 hg h7 (ha q' I rfl h2);refine⟨ad,φ',ao,R, ?_,h2.trans aq,ar,au⟩;rw[ZuN _ _ _ _ _ _ _ _ _ _ _ _ hi,hl];simp only[ZFc];rw[show Zf2 N dst q' t0=some tm0 from h6];exact h9
   split at hw;rename_i t a;split at hw;rename_i id j r ab;obtain⟨p,J,R⟩:=hs.ev _ _ ab;simp only[RV]at R;obtain⟨place,aa,rfl⟩:=R;refine light _ (Zlg P H t (Am.ev t0 a)) rfl (Zga _ _ _ _ _ _ _) (λq I U hl x hx=> ?_) hw;rcases Xau.1 hx with rfl|hx;rw[show Am.ev t0 a=_ from J]at U;exact⟨dst,_,ty,pos,after,none,rfl, .inr (.inr (.inr (.inr ⟨t,a,place,j,r,id,rfl,J,Xai,hl _ _ aa,U⟩)))⟩;exact(C.more hl _) x hx;rename_i ct y r ab;obtain⟨p,J,R⟩:=hs.ev _ _ ab;simp only[RV]at R;obtain⟨cs,rfl,_⟩:=R;refine light _ (Zlg P H t (Am.ev t0 a)) rfl (Zga _ _ _ _ _ _ _) (λq I U hl x hx=> ?_) hw;rcases Xau.1 hx with rfl|hx;rw[show Am.ev t0 a=_ from J]at U;exact⟨dst,_,ty,pos,after,none,rfl, .inr (.inr (.inr (.inl ⟨t,a,cs,r,rfl,J,U⟩)))⟩;exact(C.mono hl) x hx;cases hw;rename_i y;refine light _ (Am.ev t0 y) rfl (Zmd _ _ _ _ _ _) (λq I U hl x hx=> ?_) hw;rcases Xau.1 hx with rfl|hx;exact⟨dst,_,ty,pos,after,none,rfl, .inl λh E H'=>(Zmd _ _ _ _ _ _).trans U⟩;exact(C.mono hl) x hx
   ·rename_i t y j;split at hw
    ·rename_i id i2 n2 m2 ab;obtain⟨p,J,R⟩:=hs.ev _ _ ab;simp only[RV]at R;refine light _ (Za5 P H t (Am.ev t0 y) (Am.ev t0 j)) rfl (ZbO _ _ _ _ _ _ _ _) (λq I U hl x hx=> ?_) hw;rcases Xau.1 hx with rfl|hx
     ·rw[show Am.ev t0 y=_ from J]at U;cases hj:Am.ev t0 j with
      |none=>simp[Za5,hj]at U
      |some jv=>
       rw[hj]at U;have U:Zao P H t p jv=some q:=U;rcases R with⟨place,aa,rfl⟩|⟨_,rfl,_⟩;exact⟨dst,_,ty,pos,after,none,rfl, .inr (.inr (.inl ⟨t,y,j,place,i2,n2,m2.getD n2,jv,id,rfl,J,hj,Xai,hl _ _ aa,U⟩))⟩
       ·exfalso;unfold Zao at U;cases jv<;>first
         |(cases U;done)
         |(cases hu:P.underlying t with
          |none=>simp[hu]at U
          |some u=>cases u<;>simp[hu]at U)
     exact(C.more hl _) x hx
    ·rename_i ct xs ab;obtain⟨p,J,R⟩:=hs.ev _ _ ab;refine light _ (Za5 P H t (Am.ev t0 y) (Am.ev t0 j)) rfl (ZbO _ _ _ _ _ _ _ _) (λq I U hl x hx=> ?_) hw;rcases Xau.1 hx with rfl|hx
     ·rw[show Am.ev t0 y=_ from J]at U;cases hj:Am.ev t0 j with
      |none=>simp[Za5,hj]at U
      |some jv=>
       rw[hj]at U;have U:Zao P H t p jv=some q:=U;rcases ZhW R with⟨rfl,_⟩|⟨es,rfl,_⟩
       ·exfalso;unfold Zao at U;cases jv<;>first
         |(cases U;done)
         |(cases hu:P.underlying t with
          |none=>simp[hu]at U
          |some u=>cases u<;>simp[hu]at U)
       exact⟨dst,_,ty,pos,after,none,rfl, .inr (.inl ⟨t,y,j,es,jv,rfl,J,hj,U⟩)⟩
     exact(C.mono hl) x hx
    rename_i id i2 r2 ab;obtain⟨p,J,R⟩:=hs.ev _ _ ab;simp only[RV]at R;obtain⟨place,_,rfl⟩:=R;refine light _ (Za5 P H t (Am.ev t0 y) (Am.ev t0 j)) rfl (ZbO _ _ _ _ _ _ _ _) (λq I U hl x hx=> ?_) hw;rcases Xau.1 hx with rfl|hx;rw[show Am.ev t0 y=_ from J]at U;exact⟨dst,_,ty,pos,after,none,rfl, .inl λh E H'=>(ZbO _ _ _ _ _ _ _ _).trans (by rw[show Am.ev t0 y=_ from J];exact Zu5 U)⟩;exact(C.mono hl) x hx;cases hw
   rename_i bo t y z zt;refine light _ (ZqE P bo t z (Am.ev t0 y) (Am.ev t0 z)) rfl (Zcn _) (λq I U hl x hx=> ?_) hw;rcases Xau.1 hx with rfl|hx;exact⟨dst,_,ty,pos,after,none,rfl, .inl λh E H'=>(Zcn _).trans U⟩;exact(C.mono hl) x hx;rename_i y n;refine light _ (Zel (Am.ev t0 y) n) rfl (Zcn _) (λq I U hl x hx=> ?_) hw;rcases Xau.1 hx with rfl|hx;exact⟨dst,_,ty,pos,after,none,rfl, .inl λh E H'=>(Zcn _).trans U⟩;exact(C.mono hl) x hx;rename_i t y lo hi mx;split at hw;rename_i ct xs ab;obtain⟨p,J,R⟩:=hs.ev _ _ ab;have a1: ∀H',Zcg P H' (Am.ev t0) t y lo hi mx=Zcg P H (Am.ev t0) t y lo hi mx:=λH'=>by
      unfold Zcg;rw[show Am.ev t0 y=_ from J];have a6: ∀ (H1 H2:List Mem) l k m,ZbV P H1 t p l k m=ZbV P H2 t p l k m:=λH1 H2 l k m=>by
       rcases ZhW R with⟨rfl,_⟩|⟨es,rfl,_⟩<;>(unfold ZbV;cases P.underlying t with
        |none=>rfl
        |some u=>cases u<;>rfl)
      simp only[Xaa,a6 H' H]
   refine light _ (Zcg P H (Am.ev t0) t y lo hi mx) rfl (Zcn _) (λq I U hl x hx=> ?_) hw;rcases Xau.1 hx with rfl|hx;exact⟨dst,_,ty,pos,after,none,rfl, .inl λh E H'=>(Zcn _).trans ((a1 H').trans U)⟩;exact(C.mono hl) x hx;cases hw;rename_i c;split at hw;rename_i U;obtain⟨r,h1,h2,h3⟩:=ZwX (P:=P) (H:=H) hs.ev U;refine light _ (r H) (h1 _ _ _) (h2 _ _ _ _ _ _ _) (λq I a7 hl x hx=> ?_) hw;rcases Xau.1 hx with rfl|hx;exact⟨dst,_,ty,pos,after,none,rfl, .inl λh' E H'=>(h2 h' E H' _ _ _ _).trans a7⟩;exact(C.mono hl) x hx;cases hw;cases hw
  rename_i hi;have C:=C.drop (h:=h) (o:=⟨dst,op,ty,pos,after,none⟩);have step: ∀ (ks2:List (Nat×Nat×Bool)) (kk:SV->List SM->Prop),opT P h T op tm hp kk->(∀V hp1,kk V hp1->ZcR N dst V tm λtm'=>ZaD P h T N ls l (i+1) ks2 tm' hp1 k)->(∀ (q:PV) (H':List Mem) (I:Ph) (V:SV) (hp1:List SM),opE P h (lim P h) H (Am.ev t0) op=some (q,H')->Le φ I->RH I hp1 (λa=>H'[a]?)->kk V hp1->Accs P I ks2 H' (Zcw h ⟨dst,op,ty,pos,after,none⟩ acc))->
    ∃ad φ' tm' hp',Zrj P h (lim P h) N ls (⟨dst,op,ty,pos,after,none⟩::l) i acc ⟨t0,H⟩=some ad/\Le φ φ'/\SRep φ' tm' hp' ad/\k tm' hp':=by
    intro ks2 kk ho a8 ha;obtain⟨q,H',I,V,hp1,h1,h2,h3,h4,h5⟩:=Zxs hT hs.hp hs.ev ho;have ha:=ha q H' I V hp1 h1 h2 h3 h5;have an:=hs.mono h2 h3;obtain⟨tm0,tm',h6,h7,h8⟩:=ZmW an h4 (a8 _ _ h5);obtain⟨ad,φ',ao,R,h9,aq,ar,au⟩:=Zk7 hT l (i+1) ks2 tm' hp1 k I _ (Zcw h ⟨dst,op,ty,pos,after,none⟩ acc) h8 hg h7 ha;refine⟨ad,φ',ao,R, ?_,h2.trans aq,ar,au⟩;rw[ZuI _ _ _ _ _ _ _ _ _ _ _ _ hi,h1];simp only[ZD5];rw[show Zf2 N dst q t0=some tm0 from h6];simp only[Xaa,Ztg ha,ZG6];exact h9
  split at hw;rename_i hd;rw[hd]at C;exact step [] _ hw (λ_ _ h=>h) λq H' I V hp1 h1 h2 _ _=>C.keep h2 (λ_ _ _ hm=>absurd hm Xav) (λ_ _ _ hm=>absurd hm Xav);rename_i y af hd;rw[hd]at C;split at hw;rename_i U;refine step (y::af) _ hw (λ_ _ h=>h) λq H' I V hp1 h1 h2 _ _=> ?_;have hk:=Zq7 U h1;exact C.keep h2 (λ_ _ place _ _=>hk.z place) (λ_ _ _ _ _ _ _ _ _ hv=>hk.load hv);rename_i U;split at hw;rename_i hl;refine step (y::af) _ hw (λV hp1 h=>by unfold ZDK at h;split at h<;>first|exact h|cases h) λq H' I V hp1 h1 h2 h3 h4=> ?_;unfold ZDK at h4;split at h4;rename_i az;refine C.keep h2 (λj id place hm aa es z m ae=> ?_) (λj id place hm=> ?_);obtain⟨sm,bf,z',e1,e2,e3,e4⟩:=ZoR az hm;obtain⟨bg,m1,g1⟩:=ZtC (hs.hp.row _ _ _ e1 aa) e3;obtain⟨ba,m2,g2⟩:=ZtC (h3.row _ _ _ e2 (h2 _ _ aa)) e4;have g1:H[place]? =_:=g1;rw[ae]at g1;cases g1;exact⟨ba,m2,g2⟩;have:=Zge hm;rw[hl]at this;cases this;cases h4;rename_i bh ids hl;split at hw;rename_i t a x;split at hw;rename_i aj j r ab;split at hw;rename_i hb;simp only[Xah,XbJ]at hb;obtain⟨⟨av,aw⟩,ax⟩:=hb;refine step (y::af) _ hw (λ_ _ h=>h) λq H' I V hp1 h1 h2 _ _=> ?_;obtain⟨p,J,R⟩:=hs.ev _ _ ab;simp only[RV]at R;obtain⟨ah,ai,rfl⟩:=R;have ag:Zfq P H t (Am.ev t0 a) (Am.ev t0 x)=some (q,H'):=h1;rw[show Am.ev t0 a=_ from J]at ag;simp only[Zfq,Xaa]at ag;(cases hx:(Am.ev t0 x).bind Zjo with|none=>simp[hx]at ag|some v=>simp only[hx,Xaa]at ag;cases ak:Zdc P H t (.ptr ah j r) v with|none=>simp[ak]at ag|some H2=>simp only[ak,Xal,Xaf,Prod.mk.injEq]at ag;obtain⟨rfl,rfl⟩:=ag;refine C.keep h2 (λ_ _ place _ _ es z m ae=>ZAe ak ae) (λ_ id pl hm aa t2 j2 r2 w hw=> ?_);have hid:=Zge hm;rw[hl]at hid;have al:pl≠ah:=(by rintro rfl;obtain⟨m1,g1,g2⟩:=Zfe av;obtain⟨m2,g3,g4⟩:=Zfe (Zip aw hid);exact hs.hp.inj aj id m1 m2 pl (Znw ax hid) g1 g3 g2 g4 ai aa);rw[<-hw];simp only[Zb2,Zi9 ak al]);cases hw;cases hw;rename_i c;split at hw;rename_i bc;refine step (y::af) _ hw (λ_ _ h=>h) λq H' I V hp1 h1 h2 _ _=> ?_;have hk:=Zu6 hs.ev bc h1;exact C.keep h2 (λ_ _ place _ _=>hk.z place) (λ_ _ _ _ _ _ _ _ _ hv=>hk.load hv);split at hw;rename_i ay;refine step (y::af) _ hw (λ_ _ h=>h) λq H' I V hp1 h1 h2 _ _=> ?_;have hk:=Zoa (φ:=φ) hs.ev ay h1;exact C.keep h2 (λ_ _ place _ _ es z m hm=>by obtain⟨m',h3⟩:=hk place (by rintro _ ⟨⟩) es z m hm;exact⟨es,m',h3⟩) (λ_ _ place _ _ t j r v hv=>Zn8 (hk place (by rintro _ ⟨⟩)) hv);rename_i aj ay;split at hw;rename_i hb;simp only[Xah,XbJ]at hb;obtain⟨⟨av,aw⟩,ax⟩:=hb;refine step (y::af) _ hw (λ_ _ h=>h) λq H' I V hp1 h1 h2 _ _=> ?_;have hk:=Zoa (φ:=φ) hs.ev ay h1;have al: ∀ (n id place:Nat) (bb:Bool),(n,id,bb)∈y::af->φ[id]? =some (some place)-> ∀i2,some i2=some aj->φ[i2]?≠some (some place):=by rintro n id place bb hm aa _ ⟨⟩ ai;have hid:=ZrP hm;obtain⟨m1,g1,g2⟩:=Zfe av;obtain⟨m2,g3,g4⟩:=Zfe (Zip aw hid);exact hs.hp.inj aj id m1 m2 place (Znw ax hid) g1 g3 g2 g4 ai aa
  refine C.keep h2 (λn id place hm aa es z m ae=> ?_) (λn id place hm aa t j r v hv=> ?_);obtain⟨m',h3⟩:=hk place (al _ _ _ _ hm aa) es z m ae;exact⟨es,m',h3⟩;exact Zn8 (hk place (al _ _ _ _ hm aa)) hv;cases hw;cases hw;cases hw
def ZxN: ∀l:List Oper,ZGG l=l.map (·.dst)
 | []=>rfl
 |o::r=>by simp only[ZGG,ZxN r,XaX]
def Fr.len {φ φ':Ph} (h:Fr F φ φ') (C:F<=φ.length):F<=φ'.length:=by cases F with|zero=>exact Xap _|succ n=>have j:=h n (by omega);rw[Xad (show n<φ.length by omega)]at j;exact(Xae.1 j).1
def Zo5 (hT:TysOK P T) (c:Cx): ∀ (code:Code) (tm:TM) (hp:List SM) (k:Ex->TM->List SM->Prop) (φ:Ph) (st:St),wp P h T F c code tm hp k->F<=φ.length->SRep φ tm hp st->
 ∃e C φ' tm' hp',exS P h (lim P h) c code st=some (e,C)/\Fr F φ φ'/\SRep φ' tm' hp' C/\k e tm' hp'
 | .skip,tm,hp,k,φ,st,hw,_,I=>⟨.normal,st,φ,tm,hp,rfl,Fr.refl F φ,I,hw⟩
 | .label _,tm,hp,k,φ,st,hw,_,I=>⟨.normal,st,φ,tm,hp,rfl,Fr.refl F φ,I,hw⟩
 | .exit id,tm,hp,k,φ,st,hw,_,I=>⟨.exit id,st,φ,tm,hp,rfl,Fr.refl F φ,I,hw⟩
 | .ret,tm,hp,k,φ,st,hw,_,I=>⟨.ret,st,φ,tm,hp,rfl,Fr.refl F φ,I,hw⟩
 | .loop b,tm,hp,k,φ,st,hw,hF,I=>by obtain⟨e,C,φ',tm',hp',J,R,h3,h4⟩:=LoopOK.out hw φ st hF I;exact⟨e,C,φ',tm',hp',J,R,h3,h4⟩
 | .region id ops d,tm,hp,k,φ,st,hw,hF,I=>by
  have key: ∀os:Array Oper,wpR P h T c.N (h.light c.fid id) os tm hp (λtm' hp'=>k .normal tm' hp')->rgo (h.perm c.fid id) ops=os-> ∃e C φ' tm' hp',exS P h (lim P h) c (.region id ops d) st=some (e,C)/\Fr F φ φ'/\SRep φ' tm' hp' C/\k e tm' hp':=by intro os hw ho;unfold wpR at hw;split at hw;rename_i hl;obtain⟨C,φ',tm',hp',J,R,h3,h4⟩:=ZmY hT _ _ _ _ _ _ hw I;refine⟨.normal,C,φ',tm',hp', ?_,R.fr hF,h3,h4⟩;simp only[exS,hl,ho,Zze];rw[ZxN]at J;rw[J];rfl;rename_i j ls hl;split at hw;rename_i hg;obtain⟨C,φ',tm',hp',J,R,h3,h4⟩:=Zk7 hT _ _ _ _ _ _ _ _ [] hw hg I (λx hx=>by cases hx);refine⟨.normal,C,φ',tm',hp', ?_,R.fr hF,h3,h4⟩;rw[ZzO,hl,ho,Zwb _ _ _ _ _ hg,J];rfl;cases hw
  simp only[wp]at hw;split at hw;rename_i hp;exact key _ hw (by rw[hp];rfl);rename_i hp;exact key _ hw (by rw[hp])
 | .seq a b,tm,hp,k,φ,st,hw,hF,I=>by obtain⟨e,st1,U,tm1,hp1,J,R,h3,h4⟩:=Zo5 hT c a _ _ _ φ st hw hF I;cases e with|normal=>obtain⟨e,C,φ',tm',hp',g1,g2,g3,g4⟩:=Zo5 hT c b _ _ _ U st1 h4 (R.len hF) h3;exact⟨e,C,φ',tm',hp',by simp only[exS,J,Xaa,ZgA,g1],R.trans g2,g3,g4⟩|exit j=>exact⟨_,st1,U,tm1,hp1,by simp only[exS,J,Xaa,ZgA],R,h3,h4⟩|ret=>exact⟨_,st1,U,tm1,hp1,by simp only[exS,J,Xaa,ZgA],R,h3,h4⟩
 | .cond x a b,tm,hp,k,φ,st,hw,hF,I=>by simp only[wp]at hw;split at hw;rename_i t ht;obtain⟨q,J,R⟩:=I.ev _ _ ht;rw[ZfG R]at J;(cases t with|true=>obtain⟨e,C,φ',tm',hp',g1,g2,g3,g4⟩:=Zo5 hT c a _ _ _ φ st (hw.1 rfl) hF I;exact⟨e,C,φ',tm',hp',by simp only[exS,J,Xaa,Zqe,g1],g2,g3,g4⟩|false=>obtain⟨e,C,φ',tm',hp',g1,g2,g3,g4⟩:=Zo5 hT c b _ _ _ φ st (hw.2 rfl) hF I;exact⟨e,C,φ',tm',hp',by simp only[exS,J,Xaa,Zqe,g1],g2,g3,g4⟩);cases hw
 | .block id b,tm,hp,k,φ,st,hw,hF,I=>by simp only[wp]at hw;split at hw;rename_i hk;obtain⟨e,st1,U,tm1,hp1,J,R,h3,h4⟩:=Zo5 hT c b _ _ _ φ st hw hF I;(cases e with|normal=>exact⟨.normal,st1,U,tm1,hp1,by simp only[exS,J,Xaa,Zdt,hk,Zft,Xal],R,h3,h4⟩|exit j=>simp only[ZyI]at h4;split at h4;rename_i hj;have hj:=Xar hj;exact⟨.normal,st1,U,tm1,hp1,by simp only[exS,J,Xaa,Zdt,hk,Zft,Xal,if_pos hj],R,h3,h4⟩;rename_i hj;have hj:j≠id:=λe=>(by subst e;simp at hj);exact⟨.exit j,st1,U,tm1,hp1,by simp only[exS,J,Xaa,Zdt,if_neg hj],R,h3,h4⟩|ret=>exact⟨.ret,st1,U,tm1,hp1,by simp only[exS,J,Xaa,Zdt],R,h3,h4⟩);cases hw
 | .goto _,_,_,_,_,_,hw,_,_| .refuse _,_,_,_,_,_,hw,_,_| .rangeFunc _ _ _ _,_,_,_,_,_,hw,_,_| .scope _,_,_,_,_,_,hw,_,_=>hw.elim
def Zqn: ∀ {t C:CT} {l:List t.D} {I:List C.D},ZGI t C l I->t=C/\HEq l I:=by intro t C l I j;unfold ZGI at j;split at j;split at j;rename_i J;have:=ZgM J;subst this;subst j;exact⟨rfl,HEq.rfl⟩;cases j;subst j;exact⟨rfl,HEq.rfl⟩;subst j;exact⟨rfl,HEq.rfl⟩;split at j;rename_i R;have:=ZfZ R;subst this;subst j;exact⟨rfl,HEq.rfl⟩;cases j
def Zlc (φ:Ph):List Im->Ph
 | []=> []
 | .is i::r=>(match φ[i]? with|some o=>o|none=>none)::Zlc φ r
 | .nil::r=>none::Zlc φ r
def ZnJ (φ:Ph): ∀σ:List Im,(Zlc φ σ).length=σ.length
 | []=>rfl
 | .is i::r=>by simp only[Zlc,Xaq,ZnJ φ r]
 | .nil::r=>by simp only[Zlc,Xaq,ZnJ φ r]
def ZfR (φ:Ph): ∀ (σ:List Im) (j i:Nat) (o:Option Nat),nth σ j=some (.is i)->φ[i]? =some o->(Zlc φ σ)[j]? =some o
 | .is i'::r,0,i,o,h,C=>by simp only[nth,Xaf,Im.is.injEq]at h;subst h;simp[Zlc,C]
 | .nil::r,0,i,o,h,C=>by simp[nth]at h
 | .is i'::r,j+1,i,o,h,C=>by simpa[Zlc]using ZfR φ r j i o h C
 | .nil::r,j+1,i,o,h,C=>by simpa[Zlc]using ZfR φ r j i o h C
def ZjK (φ:Ph): ∀ (σ:List Im) (j:Nat),nth σ j=some .nil->(Zlc φ σ)[j]? =some none
 | .nil::r,0,h=>by simp[Zlc]
 | .is i'::r,0,h=>by simp[nth]at h
 | .is i'::r,j+1,h=>by simpa[Zlc]using ZjK φ r j h
 | .nil::r,j+1,h=>by simpa[Zlc]using ZjK φ r j h
def Zw6 {σ:List Im} (hl:φ.length=hp.length): ∀ {V V':SV} {q:PV},ZHM σ V V'->RV φ V q->RV (Zlc φ σ) V' q:=by intro V V' q j C;unfold ZHM at j;split at j;split at j;rename_i U;have:=ZgM U;subst this;subst j;simpa only[RV]using C;cases j;subst j;simpa only[RV]using C;subst j;simpa only[RV]using C;subst j;simpa only[RV]using C;obtain⟨rfl,I⟩:=Zqn j;have I:=eq_of_heq I;subst I;simpa only[RV]using C;simp only[RV]at C;subst C;subst j;show RR _ _ _;exact .inl ⟨rfl,rfl⟩;simpa only[RV]using C;simpa only[RV]using C;simpa only[RV]using C;simpa only[RV]using C;simp only[RV]at C;subst C;split at j;rename_i R;simp only[RV];exact .inr ⟨ZjK φ σ _ R,trivial,j⟩;cases j;split at j;rename_i d R;split at j;rename_i hd;have hd:=Xar hd;subst hd;obtain⟨rfl,rfl,hm⟩:=j;simp only[RV]at C|-;rcases C with⟨a,J,I⟩|⟨J,I,h3,h4,h5⟩;exact .inl ⟨a,ZfR φ σ _ _ _ R J,by rw[hm];exact I⟩;exact .inr ⟨ZfR φ σ _ _ _ R J,I,h3,h4,by rw[hm];exact h5⟩;cases j;cases j;split at j;rename_i d R;split at j;rename_i hd;have hd:=Xar hd;subst hd;obtain⟨rfl,rfl⟩:=j;simp only[RV]at C|-;obtain⟨a,J,I⟩:=C;exact⟨a,ZfR φ σ _ _ _ R J,I⟩;cases j;cases j;obtain⟨J,rfl⟩:=j;obtain⟨rfl,I⟩:=Zqn J;have I:=eq_of_heq I;cases I;simpa only[RV]using C;cases j
def Zf5 {σ:List Im} (C:φ.length=hp.length): ∀ {l I:List SV} {qs:List PV},ZqS σ l I->RL φ l qs->RL (Zlc φ σ) I qs
 | [],[],qs,_,j=>by simpa only[RL]using j
 |a::l,b::r,qs,J,j=>by simp only[RL]at j|-;obtain⟨q,R,rfl,U,h2⟩:=j;exact⟨q,R,rfl,Zw6 C J.1 U,Zf5 C J.2 h2⟩
def ZCM {σ:List Im} (I:φ.length=hp.length) {V V':SV} {q:PV} (C:ZHu σ V V') (j:RV φ V q):RV (Zlc φ σ) V' q:=by unfold ZHu at C;split at C;obtain⟨rfl,R,U⟩:=C;simp only[RV]at j|-;obtain⟨a,c,rfl,J,h4⟩:=j;exact⟨a,c,rfl,Zf5 I R J,Zf5 I U h4⟩;simp only[RV]at j|-;obtain⟨a,rfl,J⟩:=j;exact⟨a,rfl,Zf5 I C J⟩;simp only[RV]at j|-;obtain⟨a,rfl,J⟩:=j;exact⟨a,rfl,Zf5 I C J⟩;exact Zw6 I C j
def Znv: ∀ {σ:List Im} {j U i:Nat},ZhM σ=true->j≠U->nth σ j=some (.is i)->nth σ U=some (.is i)->False
 | .nil::r,0,_,_,_,_,C,_=>by simp[nth]at C
 | .nil::r,_,0,_,_,_,_,I=>by simp[nth]at I
 | .nil::r,j+1,U+1,i,J,R,C,I=>Znv (σ:=r) J (by omega) C I
 | .is x::r,0,0,_,_,R,_,_=>R rfl
 | .is x::r,0,U+1,i,J,_,C,I=>by simp only[ZhM,Xah,Xaw]at J;simp only[nth,Xaf,Im.is.injEq]at C;subst C;have:nth r U=some (.is x):=I;rw[ZaK]at this;have:=J.1 _ (XaF this);simp at this
 | .is x::r,j+1,0,i,J,_,C,I=>by simp only[ZhM,Xah,Xaw]at J;simp only[nth,Xaf,Im.is.injEq]at I;subst I;have:nth r j=some (.is x):=C;rw[ZaK]at this;have:=J.1 _ (XaF this);simp at this
 | .is x::r,j+1,U+1,i,J,R,C,I=>by simp only[ZhM,Xah]at J;exact Znv (σ:=r) J.2 (by omega) C I
def Ztf {σ:List Im}: ∀ {ss:List Im} {ms:List SM} {j:Nat} {m:SM},ZxI σ hp ss ms->ms[j]? =some m-> ∃s,nth ss j=some s/\ZHW σ hp s m
 |_,[],j,m,_,h=>by simp at h
 | [],_::_,_,_,C,_=>C.elim
 |s::ss,I::ms,0,m,C,h=>by simp at h;subst h;exact⟨s,rfl,C.1⟩
 |s::ss,I::ms,j+1,m,C,h=>Ztf (ss:=ss) C.2 (by simpa using h)
def RH.view {L:Nat->Option Mem} (hh:RH φ hp L) {σ:List Im} {hp':List SM} (hlen:σ.length=hp'.length) (U:ZhM σ=true) (hs:ZxI σ hp σ hp'):RH (Zlc φ σ) hp' L:=by
 have ph: ∀ {i:Nat} {m:SM},nth hp i=some m-> ∃o,φ[i]? =some o/\RM φ L o m:=λh=>hh.ph h
 have at_: ∀ {j:Nat} {m:SM} {o:Option Nat},hp'[j]? =some m->(Zlc φ σ)[j]? =some o->RM (Zlc φ σ) L o m/\(∀a,o=some a->live m=true-> ∃i m0,nth σ j=some (.is i)/\nth hp i=some m0/\live m0=true/\φ[i]? =some (some a)):=by intro j m o hm J;obtain⟨s,h1,I⟩:=Ztf hs hm;unfold ZHW at I;split at I;rename_i id t' l' m';split at I;rename_i t l m0 C;obtain⟨o',h3,R⟩:=ph C;have h5:=ZfR φ σ _ _ _ h1 h3;rw[h5]at J;cases J;obtain⟨h6,h7⟩:=I;obtain⟨rfl,h8⟩:=Zqn h6;have h8:=eq_of_heq h8;subst h8;refine⟨?_,λa U _=>⟨_,_,h1,C,rfl,by rw[h3,U]⟩⟩;simp only[RM]at R|-;(cases o with|none=>exact R|some a=>obtain⟨es,m1,g1,g2,g3⟩:=R;exact⟨es,m1,g1,g2,λh=>g3 (h7 h)⟩);cases I;have h5:=ZjK φ σ _ h1;rw[h5]at J;cases J;exact⟨by simp only[RM];exact I,λa U=>by cases U⟩;split at I;rename_i cs m0 C;obtain⟨o',h3,R⟩:=ph C;have h5:=ZfR φ σ _ _ _ h1 h3;rw[h5]at J;cases J;refine⟨?_,λa U _=>⟨_,_,h1,C,rfl,by rw[h3,U]⟩⟩;simp only[RM]at R|-;obtain⟨a,ab,m1,g0,g1,g2,g3⟩:=R;exact⟨a,ab,m1,g0,g1,Zf5 hh.len I.1 g2,λh=>g3 (I.2 h)⟩;cases I;exact⟨trivial,λa _ hl=>by cases hl⟩;cases I
 refine⟨by rw[ZnJ,hlen],λj m o hm J=>(at_ hm J).1, ?_⟩;intro j j' m m' a ad hm ae hl af J ag;obtain⟨i,m0,h1,I,h3,R⟩:=(at_ hm J).2 a rfl hl;obtain⟨i',ak,ah,aa,ai,aj⟩:=(at_ ae ag).2 a rfl af;by_cases hi:i=i';subst hi;exact Znv U ad h1 ah;rw[ZaK]at I aa;exact hh.inj _ _ _ _ _ hi I aa h3 ai R aj
def ZsE (tm tm':TM) (hp hp':List SM): ∀ (j:Nat) (l:List SM),(ZFn tm tm' hp hp' j l).length=l.length
 |_,[]=>rfl
 |j,_::r=>by simp only[ZFn,Xaq,ZsE tm tm' hp hp' (j+1) r]
def Zow: ∀ {F:Nat} {σ:List Im} {j:Nat},Zpc F σ=true->j<F->nth σ j=some (.is j)
 |F+1,σ,j,h,C=>by simp only[Zpc]at h;split at h;rename_i i hi;simp only[Xah]at h;by_cases e:j=F;subst e;rw[hi,Xar h.1];exact Zow h.2 (by omega);cases h
def ZaH {tm':TM} {hp':List SM} {σ:List Im} (U:ZFn tm tm' hp hp' 0 hp'=σ) (R:(ZhM σ&&Zpc F σ)=true) (h1:ZxE σ tm tm') (h2:ZxI σ hp σ hp'):Ent F tm hp tm' hp':=by
 refine⟨λφ st hF hs=>⟨Zlc φ σ, ?_, ?_, ?_⟩⟩;simp only[Xah]at R;intro j hj;have C:φ[j]? =some φ[j]:=Xad (by omega);rw[C];exact ZfR φ σ j j _ (Zow R.2 hj) C;intro i V' aa;have: ∀ (l:TM),ZxE σ tm l->Zck i l=some V'-> ∃V,Zck i tm=some V/\ZHu σ V V':=by intro l;induction l with|nil=>intro _ h;cases h|cons x r ih=>obtain⟨j,W⟩:=x;intro C I;simp only[ZxE]at C;rw[ZfH]at I;split at C;rename_i V hV;(cases hb:Nat.beq i j with|true=>rw[hb]at I;cases I;have:=Xar hb;subst this;exact⟨V,hV,C.1⟩|false=>rw[hb]at I;exact ih C.2 I);cases C
 obtain⟨V,hV,J⟩:=this tm' h1 aa;obtain⟨q,C,I⟩:=hs.tm i V hV;exact⟨q,C,ZCM hs.hp.len J I⟩;simp only[Xah]at R;exact hs.hp.view (by rw[<-U,ZsE]) R.1 h2
def Zar:Ent F tm hp tm hp:=⟨λφ _ _ j=>⟨φ,Fr.refl F φ,j⟩⟩
def Zqq {σ:Type} (F:Nat) (I:σ->TM) (J:σ->List SM) (Inv:σ->Prop) (j:σ->Nat) (a:σ) (k:Ex->TM->List SM->Prop):Ex->TM->List SM->Prop
 | .normal,tm,hp=> ∃C,Inv C/\j C<j a/\Ent F tm hp (I C) (J C)
 |e,tm,hp=>k e tm hp
def LoopOK.mono {c:Cx} {b:Code} {k k':Ex->TM->List SM->Prop} (C:LoopOK P h F c b tm hp k) (I: ∀e tm hp,k e tm hp->k' e tm hp):LoopOK P h F c b tm hp k':=
 ⟨λφ st J R=>by obtain⟨e,j,φ',tm',hp',f1,f2,f3,f4⟩:=C.out φ st J R;exact⟨e,j,φ',tm',hp',f1,f2,f3,I _ _ _ f4⟩⟩
def LoopOK.ent {c:Cx} {b:Code} {k:Ex->TM->List SM->Prop} {tm':TM} {hp':List SM} (R:LoopOK P h F c b tm' hp' k) (he:Ent F tm hp tm' hp'):LoopOK P h F c b tm hp k:=
 ⟨λφ st I U=>by obtain⟨j,J,h2⟩:=he.out φ st I U;obtain⟨e,C,φ',tm',hp',f1,f2,f3,f4⟩:=R.out j st (J.len I) h2;exact⟨e,C,φ',tm',hp',f1,J.trans f2,f3,f4⟩⟩
def LoopOK.through {c:Cx} {b:Code} {k k':Ex->TM->List SM->Prop} (U:LoopOK P h F c b tm hp k) (hk: ∀e tm hp,k e tm hp-> ∃tm' hp',Ent F tm hp tm' hp'/\k' e tm' hp'):LoopOK P h F c b tm hp k':=
 ⟨λφ st R hs=>by obtain⟨e,j,φ',tm',hp',f1,f2,f3,f4⟩:=U.out φ st R hs;obtain⟨C,I,g1,g2⟩:=hk _ _ _ f4;obtain⟨J,g3,g4⟩:=g1.out φ' j (f2.len R) f3;exact⟨e,j,J,C,I,f1,f2.trans g3,g4,g2⟩⟩
def PureOK.mono {f:FuncId} {Vs:List SV} {Q j:SV->Prop} (hp:PureOK P h f Vs Q) (C: ∀V,Q V->j V):PureOK P h f Vs j:=
 ⟨λqs I=>by obtain⟨q,V,J,R,U⟩:=hp.out qs I;exact⟨q,V,J,R,C V U⟩⟩
def AsV (V V':SV):Prop:= ∀φ q,RV φ V q->RV φ V' q
def PureOK.as {f:FuncId} {Vs:List SV} {Q j:SV->Prop} (hp:PureOK P h f Vs Q) (C: ∀V,Q V-> ∃V',AsV V V'/\j V'):PureOK P h f Vs j:=
 ⟨λqs I=>by obtain⟨q,V,J,R,U⟩:=hp.out qs I;obtain⟨V',h4,h5⟩:=C V U;exact⟨q,V',J,h4 _ _ R,h5⟩⟩
def AsV.refl (V:SV):AsV V V:=λ_ _ h=>h
def AsV.nil (e:CT):AsV .nils (.v (.l e) ([]:List e.D)):=λφ q h=>by simp only[RV]at h;subst h;show RR _ _ _;exact .inl ⟨rfl,rfl⟩
def AsV.tup2 {a b j C:SV} (I:AsV a j) (J:AsV b C):AsV (.tup [a,b]) (.tup [j,C]):=λφ q h=>by simp only[RV,RL]at h|-;obtain⟨_,rfl,_,_,rfl,R,_,_,rfl,U,rfl⟩:=h;exact⟨_,rfl,_,_,rfl,I _ _ R,_,_,rfl,J _ _ U,rfl⟩
def ImpOK.mono {f:FuncId} {Vs:List SV} {Q I:SV->List SM->Bool->Prop} (hp:ImpOK P h f Vs Q) (R: ∀V J j,Q V J j->I V J j):ImpOK P h f Vs I:=
 ⟨λqs U base=>by obtain⟨v,rows,j,φ,V,hp',C,h1,h2,h3,h4,h5⟩:=hp.out qs U base;exact⟨v,rows,j,φ,V,hp',C,h1,h2,h3,h4,R _ _ _ h5⟩⟩
def OpenOK.mono {f:FuncId} {Vs:List SV} {Q j:SV->List SM->Prop} (C:OpenOK P h f Vs hp Q) (I: ∀V hp,Q V hp->j V hp):OpenOK P h f Vs hp j:=
 ⟨λφ H qs J R=>by obtain⟨v,H',φ',V,hp',g1,g2,g3,g4,g5⟩:=C.out φ H qs J R;exact⟨v,H',φ',V,hp',g1,g2,g3,g4,I _ _ g5⟩⟩
def ZmK (hT:TysOK P T) {st:St} (C:SRep φ tm hp st): ∀ {rs:List ResultVar} {k:List SV->Prop},ZEB T tm hp rs k-> ∃vs l,Za4 (Zjp P st.tm st.hp) rs=some vs/\RL φ l vs/\k l
 | [],k,j=>⟨[],[],rfl,by simp only[RL],j⟩
 | .tmp t::r,k,j=>by simp only[ZEB]at j;split at j;rename_i V I;obtain⟨q,J,R⟩:=C.tm _ _ I;obtain⟨vs,l,U,h4,h5⟩:=ZmK hT C j;exact⟨q::vs,V::l,by rw[Zbh,U];simp only[Zjp,J,Xaa],by simp only[RL];exact⟨_,_,rfl,R,h4⟩,h5⟩;cases j
 | .cell a t::r,k,j=>by simp only[ZEB]at j;split at j;rename_i V I;obtain⟨q,J,R⟩:=C.tm _ _ I;obtain⟨q',V',h6,h7,h8⟩:=Ztm hT C.hp j R;obtain⟨vs,l,U,h4,h5⟩:=ZmK hT C h8;exact⟨q'::vs,V'::l,by rw[Zbh,U];simp only[Zjp,J,h6,Xaa],by simp only[RL];exact⟨_,_,rfl,h7,h4⟩,h5⟩;cases j
def Zv4 {l:List SV} {vs:List PV} (j:RL φ l vs):RV φ (ZHz l) (ZbM vs):=by match l,vs,j with| [],vs,j=>simp only[RL]at j;subst j;simp only[ZHz,ZbM,RV,RL];exact⟨_,rfl,rfl⟩| [V],vs,j=>obtain⟨q,rfl,I⟩:=RL1 j;exact I|V::W::r,vs,j=>have C:=j;simp only[RL]at C;obtain⟨q,J,rfl,_,R,U,rfl,_⟩:=C;simp only[ZHz,ZbM];show RV φ (.tup _) _;simp only[RV];exact⟨_,rfl,j⟩
def ZnM (hT:TysOK P T) {st:St} (U:SRep φ tm hp st) {rs:List ResultVar} {k:SV->List SM->Prop} {e:Ex} (C:ZnZ T rs k e tm hp): ∃v V,ZHw P rs (e,st)=some (v,st.hp)/\RV φ V v/\k V hp:=by cases e with|exit j=>cases C|normal=>obtain⟨vs,l,I,J,R⟩:=ZmK hT U C;exact⟨_,_,by simp only[ZHw,I,Xal],Zv4 J,R⟩|ret=>obtain⟨vs,l,I,J,R⟩:=ZmK hT U C;exact⟨_,_,by simp only[ZHw,I,Xal],Zv4 J,R⟩
def Zd2 {qs:List PV}: ∀ {Vs:List SV} {n:Nat},RL φ Vs qs-> ∀i V,Zck i (Zch n Vs)=some V-> ∃q,Am.get (enterT n qs) i=some q/\RV φ V q:=by
 intro Vs;induction Vs generalizing qs with
 |nil=>intro n _ i V h;cases h
 |cons W r J=>
  intro n C i V j;simp only[RL]at C;obtain⟨q,R,rfl,U,h3⟩:=C;simp only[Zch]at j;rw[ZfH]at j;show ∃q',(bif Nat.beq i n then some q else Am.get (enterT (n+1) R) i)=some q'/\_
  cases I:Nat.beq i n with|true=>rw[I]at j;cases j;exact⟨q,rfl,U⟩|false=>rw[I]at j;exact J h3 i V j
def ZB3 (hT:TysOK P T) {f:FuncId} {fn:Func} {code:Code} {Vs:List SV} {k:SV->List SM->Prop} (j:h.ok f=true) (hf:P.funcs[f]? =some fn) (R:fn.body=some code) (U:Vs.length<=fn.ntmps) {H:List Mem}
 (hw:wp P h T F ⟨f,H.length,fn.ntmps⟩ code (Zch 0 Vs) hp (ZnZ T fn.results.toList k)) {qs:List PV} (hF:F<=φ.length) (hh:RH φ hp (λa=>H[a]?)) (I:RL φ Vs qs):
 ∃v H' φ' V hp',(lim P h).rn f qs H=some (v,H')/\Fr F φ φ'/\RH φ' hp' (λa=>H'[a]?)/\RV φ' V v/\k V hp':=by obtain⟨e,C,φ',tm',hp',h1,h2,J,h4⟩:=Zo5 hT _ code _ _ _ φ ⟨enterT 0 qs,H⟩ hw hF ⟨Zd2 I,hh⟩;obtain⟨v,V,h5,h6,h7⟩:=ZnM hT J h4;refine⟨v,C.hp,φ',V,hp', ?_,h2,J.hp,h6,h7⟩;refine Zs8 j hf R (by rw[<-I.len];exact U) ?_;rw[h1,Xaa];exact h5
def RH.empty:RH [] [] (λa=>([]:List Mem)[a]?):=⟨rfl,λ_ _ _ h=>by simp at h,λ_ _ _ _ _ _ h=>by simp at h⟩
def ZkO (hT:TysOK P T) {f:FuncId} {fn:Func} {code:Code} {Vs:List SV} {Q:SV->Prop} (j:h.ok f=true) (hp:h.prim f=none) (hf:P.funcs[f]? =some fn) (C:fn.body=some code) (I:Vs.length<=fn.ntmps)
 (hw:wp P h T 0 ⟨f,0,fn.ntmps⟩ code (Zch 0 Vs) [] (ZnZ T fn.results.toList λV hp=>ZdB hp 40 V Q)):PureOK P h f Vs Q:=by refine⟨λqs J=> ?_⟩;obtain⟨v,H',φ',V,hp',R,_,U,h4,h5⟩:=ZB3 (φ:=[]) (H:=[]) hT j hf C I hw (Xap _) RH.empty J;obtain⟨q',V',g1,g2,g3,_⟩:=Zk0 U 40 V v Q h5 h4;refine⟨q',V', ?_,g2,g3⟩;simp only[ZbT,hp,R,Xaa];exact g1
def ZbH (hT:TysOK P T) {f:FuncId} {fn:Func} {code:Code} {Vs:List SV} {Q:SV->List SM->Prop} (j:h.ok f=true) (hf:P.funcs[f]? =some fn) (I:fn.body=some code) (J:Vs.length<=fn.ntmps)
 (hw: ∀base,wp P h T hp.length ⟨f,base,fn.ntmps⟩ code (Zch 0 Vs) hp (ZnZ T fn.results.toList Q)):OpenOK P h f Vs hp Q:=by refine⟨λφ H qs C R=> ?_⟩;obtain⟨v,H',φ',V,hp',U,h2,h3,h4,h5⟩:=ZB3 (φ:=φ) (H:=H) hT j hf I J (hw H.length) (by rw[C.len];exact Xag _) C R;exact⟨v,H',φ',V,hp',U,h2.le (by rw[C.len];exact Xag _),h3,h4,h5⟩
end
end Go.Tx

/- The program logic: code, loops, functions. -/
import Derived.Test.YtpdhpbldangmbaaGreatDoorTx4
set_option linter.all false
namespace Go.Tx
open Go.Am
section
variable {P:Program} {h:Hints} {T:TypeId->TI} {φ:Ph} {hp:List SM} {tm:TM} {F:Nat}
theorem Zgq (i d:Nat) (V:SV) (tm:TM):ZbJ i ((d,V)::tm)=bif Nat.beq i d then some V else ZbJ i tm:=rfl
def SRep.put {st:St} (C:SRep φ tm hp st) {V:SV} {q:PV} (R:RV φ V q) (d:Nat):SRep φ ((d,V)::tm) hp ⟨(d,q)::st.tm,st.hp⟩:=by
 refine⟨λi W j=> ?_,C.hp⟩;rw[Zgq]at j;show ∃I,(bif Nat.beq i d then some q else Am.get st.tm i)=some I/\_
 cases J:Nat.beq i d with|true=>grind|false=>rw[J]at j;exact C.tm i W j
def SRep.mono {st} (j:SRep φ tm hp st) {φ'} (hl:Le φ φ') {hp' H'} (C:RH φ' hp' (λa=>H'[a]?)):SRep φ' tm hp' ⟨st.tm,H'⟩:=
 ⟨λi V I=>by let⟨q,J,R⟩:=j.tm i V I;exact⟨q,J,RV.mono hl V q R⟩,C⟩
def SRep.ev {st} (hs:SRep φ tm hp st):ZwT φ tm (ev st.tm):=by
 have I: ∀v V,ZoB v=some V-> ∃q,Zg5 v=some q/\RV φ V q:=by
  intro v V C;unfold ZoB at C;split at C<;>first
   |(cases C;exact⟨.nilp,rfl,by simp[RV]⟩)
   |(cases C;exact⟨.nils,rfl,by simp[RV]⟩)
   |(cases C;exact⟨.nilf,rfl,by simp[RV]⟩)
   |(cases C;exact⟨.nili,rfl,by simp[RV]⟩)
   |(cases C;exact⟨.nilm,rfl,by simp[RV]⟩)
   |(cases C;exact⟨_,rfl,vb _⟩)
   |(cases C;exact⟨_,rfl,vi _ _⟩)
   |(cases C;exact⟨_,rfl,vs' _⟩)
   |(cases C;done)
 intro x V j;cases x with
 |tmp t=>exact hs.tm t V j
 |const v=>
  change Zw2 v=some V at j;show ∃q,ZrD v=some q/\_
  unfold Zw2 at j;split at j;rename_i cs;have lst: ∀ (l:List Value) (Vs:List SV),Zkf l=some Vs-> ∃J,Za3 Zg5 l=some J/\RL φ Vs J:=by intro l;induction l with|nil=>intro Vs h;cases h;exact⟨[],rfl,by simp[RL]⟩|cons v r ih=>intro Vs h;simp[Zkf]at h;split at h;rename_i x j;split at h;rename_i y hy;cases h;(let⟨q,R,U⟩:=I v x j);(let⟨J,h3,h4⟩:=ih y hy);exact⟨q::J,by rw[Zbn,R,h3];rfl,by simp only[RL];exact⟨_,_,rfl,U,h4⟩⟩;cases h;cases h
  split at j;rename_i l hl;cases j;(let⟨J,R,U⟩:=lst _ _ hl);exact⟨.agg J,by simp[ZrD,R],by simp only[RV];exact⟨_,rfl,U⟩⟩;cases j;rename_i aa;(have e:ZrD v=Zg5 v:=by cases v<;>first|rfl|exact absurd rfl (aa _));rw[e];exact I v V j
 |global g=>cases j
 |func f=>cases j;exact⟨.func f [] [],rfl,by simp only[RV,RL];exact⟨_,_,rfl,rfl,rfl⟩⟩
def Zog {st} (C:SRep φ tm hp st) {V q} (I:RV φ V q) {N dst k} (j:ZcX N dst V tm k): ∃tm0 tm',ZgX N dst q st.tm=some tm0/\SRep φ tm' hp ⟨tm0,st.hp⟩/\k tm':=by unfold ZcX at j;split at j;exact⟨st.tm,tm,rfl,C,j⟩;rename_i d;split at j;rename_i J;exact⟨(d,q)::st.tm,(d,V)::tm,if_pos (Nat.lt_of_succ_le (Xam J)),C.put I d,j⟩;cases j
def ZnC (hT:TysOK P T) {N ds}: ∀ (l:List Oper) (tm:TM) (hp:List SM) (k:TM->List SM->Prop) (φ:Ph) (st:St),wpOps P h T N ds l tm hp k->SRep φ tm hp st->
 ∃C φ' tm' hp',Ze0 P h (lim P h) N ds l st=some C/\Le φ φ'/\SRep φ' tm' hp' C/\k tm' hp'
 | [],tm,hp,k,φ,st,hw,I=>⟨st,φ,tm,hp,rfl,Le.refl φ,I,hw⟩
 |⟨dst,op,ty,pos,after,g⟩::l,tm,hp,k,φ,⟨t0,H⟩,hw,I=>by
  have run:opT P h T op tm hp (λV hp'=>ZcX N dst V tm λtm'=>wpOps P h T N ds l tm' hp' k)-> ∃C φ' tm' hp',ZwU P h (lim P h) N ds dst l t0 (opE P h (lim P h) H (ev t0) op)=some C/\Le φ φ'/\SRep φ' tm' hp' C/\k tm' hp':=by intro ho;(let⟨q,H',ae,V,hp1,h1,J,h3,h4,h5⟩:=ZAm hT I.hp I.ev ho);have af:=I.mono J h3;(let⟨tm0,tm',h6,h7,h8⟩:=Zog af h4 h5);(let⟨C,φ',R,U,h9,aa,ab,ad⟩:=ZnC hT l tm' hp1 k ae _ h8 h7);refine⟨C,φ',R,U, ?_,J.trans aa,ab,ad⟩;grind [ZwU]
  have skip:ZcX N dst (.tup []) tm (λtm'=>wpOps P h T N ds l tm' hp k)-> ∃C φ' tm' hp',ZwU P h (lim P h) N ds dst l t0 (some (.tup [],H))=some C/\Le φ φ'/\SRep φ' tm' hp' C/\k tm' hp':=by intro ho;(let⟨tm0,tm',h6,h7,h8⟩:=Zog I (q:= .tup []) (by simp only[RV,RL];exact⟨_,rfl,rfl⟩) ho);(let⟨C,φ',R,U,h9,aa,ab,ad⟩:=ZnC hT l tm' hp k φ _ h8 h7);refine⟨C,φ',R,U, ?_,aa,ab,ad⟩;simp[ZwU,Xad];rw[show ZgX N dst (.tup []) t0=some tm0 from h6];exact h9
  cases g with|none=>rw[ZHJ];exact run hw|some jw=>(let⟨j,w⟩:=jw);rw[Zxa,ZGH];simp[wpOps]at hw;split at hw;rename_i d hd;rw[ZaA]at hd;split at hw;rename_i t ht;(let⟨q,h1,J⟩:=I.tm _ _ ht);rw[Zff J]at h1;simp only[hd,Xad,id,show Am.get t0 d=_ from h1,ZFE];(cases hb:t==w with|true=>rw[ZAi];exact run (hw.1 (by simpa using hb))|false=>rw[Zni];exact skip (hw.2 (by cases t<;>cases w<;>simp at hb|-)));rename_i ht;(let⟨q,h1,J⟩:=I.tm _ _ ht);simp[RV,RL]at J;obtain⟨_,rfl,rfl⟩:=J;simp only[hd,Xad,id,show Am.get t0 d=_ from h1,ZFE];rw[Zni];exact skip hw;cases hw;cases hw
def ZnR {id j}: ∀ {l:List Nat},Zmj id l=false->j∈l->id≠j
 |i::r,h,hj=>by simp only[Zmj]at h;split at h;cases h;rename_i C;rcases XaF.1 hj with rfl|hj;intro e;subst e;simp at C;exact ZnR h hj
def Zi8 {j}: ∀ {l:List Nat},Zc4 hp l=true->j∈l->ZeR hp j=true
 |i::r,h,hj=>by simp only[Zc4,Xas]at h;rcases XaF.1 hj with rfl|hj;exact h.1;exact Zi8 h.2 hj
def Ze3 {id} (h:ZeR hp id=true): ∃m,hp[id]? =some m/\live m=true:=by grind [ZeR,ZaA]
theorem ZjH {H H' t a i r b x} (j:Zdo P H t (.ptr a i r) x=some H') (I:b≠a):H'[b]? =H[b]? :=by
 unfold Zdo at j;simp only at j;split at j;rename_i es z he;cases C:es[i]? with|none=>simp[C]at j|some c=>cases hn:Zbi P t with|none=>simp[hn]at j|some n=>grind
 cases j
def ZDl {H H' t} {a i r b:Nat} {x es z m} (j:Zdo P H t (.ptr a i r) x=some H') (I:H[b]? =some (.row es z m)): ∃es' J,H'[b]? =some (.row es' z J):=by
 by_cases C:b=a;subst C;unfold Zdo at j;simp[I]at j;split at j;rename_i R z2 he;cases he;cases U:es[i]? with|none=>simp[U]at j|some c=>cases hn:Zbi P t with|none=>simp[hn]at j|some n=>grind
 cases j;grind [ZjH]
def ZKW (P:Program) (φ:Ph) (ks:List (Nat×Nat×Bool)) (H:List Mem) (x:Nat×Oper×List (Nat×PV)×PV):Prop:=
 ∃dst op ty pos after g,x.2.1=⟨dst,op,ty,pos,after,g⟩/\
  ((∀ (h:Hints) (E:Ev) (H':List Mem),ZaU P h E H' (Am.ev x.2.2.1) ⟨dst,op,ty,pos,after,g⟩=some x.2.2.2)\/
   (∃t y j es C,op= .indexAddr t y j/\Am.ev x.2.2.1 y=some (.lst es)/\Am.ev x.2.2.1 j=some C/\Zar P H t (.lst es) C=some x.2.2.2)\/
   (∃t y j place i n m C id,op= .indexAddr t y j/\Am.ev x.2.2.1 y=some (.ref place i n m)/\Am.ev x.2.2.1 j=some C/\(x.1,id,false)∈ks/\φ[id]? =some (some place)/\Zar P H t (.ref place i n m) C=some x.2.2.2)\/
   (∃t a c r,op= .load t a/\Am.ev x.2.2.1 a=some (.box c r)/\Zed P t c r=some x.2.2.2)\/
   (∃t a place i r id,op= .load t a/\Am.ev x.2.2.1 a=some (.ptr place i r)/\(x.1,id,true)∈ks/\φ[id]? =some (some place)/\Zcf P H t (.ptr place i r)=some x.2.2.2))
def Accs (P:Program) (φ:Ph) (ks:List (Nat×Nat×Bool)) (H:List Mem) (acc:List (Nat×Oper×List (Nat×PV)×PV)):Prop:= ∀x∈acc,ZKW P φ ks H x
def Zu8 {ks:List (Nat×Nat×Bool)} {H:List Mem}: ∀ {acc:List (Nat×Oper×List (Nat×PV)×PV)},Accs P φ ks H acc->Zfo P h (lim P h) acc H=some ()
 | [],_=>rfl
 |(n,o,tm0,v)::acc,j=>by
  obtain⟨dst,op,ty,pos,after,g,rfl,I⟩:=j _ Xah;have fin: ∀ {r:Option PV},r=some v->Zum P h (lim P h) acc H v r=some ():=λh=>by rw[h,ZrL _ _ _ _ (Zs1 v)];exact(Zu8 λx C=>j x (Xai _ C))
  grind [Zwp,Zci,Zbc,Zi9,Zn6,Zcf]
def Keeps (H H':List Mem):Prop:= ∀ (a:Nat) (es:List (List PV)) (z:Nat) (m:Bool),H[a]? =some (.row es z m)-> ∃j,H'[a]? =some (.row es z j)
def Keeps.refl (H:List Mem):Keeps H H:=λ_ _ _ m h=>⟨m,h⟩
theorem ZjT (ids:List Nat) (H rows:List Mem):Keeps H (Am.freeze ids H++rows):=by
 intro a es z m h;let⟨C,J,j⟩:=ZdJ ids H a _ h
 cases C with|row es' z' I=>simp[simM]at j;grind|_=>simp[simM]at j
theorem Zm4 {H:List Mem} {v:Option PV} {q:PV} {H':List Mem} (h:Zcz H v=some (q,H')):Keeps H H':=by cases v with|none=>cases h|some v=>cases h;exact Keeps.refl H
theorem ZmV {H:List Mem} {r:Res} {q:PV} {H':List Mem} (h:Zj6 H r=some (q,H')):Keeps H H':=by cases r with|none=>cases h|some x=>cases h;exact ZjT _ _ _
def ZrW {H:List Mem} {ρ:Operand->Option PV} {E:Ev} {dst:Option Tmp} {op:Op} {ty:TypeId} {pos:String} {after:Array Edge} {g:Option (Nat×Bool)} {q:PV} {H':List Mem} (hw:isW h ⟨dst,op,ty,pos,after,g⟩=false) (ho:opE P h E H ρ op=some (q,H')):Keeps H H':=by
 cases op<;>first
  |exact Zm4 ho
  |exact ZmV ho
  |(cases ho;done)
  |(cases hw;done)
  |skip
 rename_i c;have ho:ZiJ P h E H ρ c=some (q,H'):=ho;have hw:ZJU h c=false:=hw;grind [ZiJ,ZJU,Zm4,ZmV]
def Zym {H:List Mem} {ρ:Operand->Option PV} {E:Ev} {c:Call} {q:PV} {H':List Mem} (j:ZwT φ tm ρ) (hd:ZKp h tm c=true) (ho:opE P h E H ρ (.call c)=some (q,H')):Keeps H H':=by
 have ho:ZiJ P h E H ρ c=some (q,H'):=ho;unfold ZKp at hd;unfold ZiJ at ho;split at hd;cases hd;rename_i x J U;split at hd;rename_i f a cc C;let⟨p,hp1,I⟩:=j _ _ C
 obtain⟨a',c',rfl,_,_⟩:=I;have ho:Zzy h E H ρ x c=some (q,H'):=by grind
 unfold Zzy at ho;rw[hp1]at ho;cases R:Za3 ρ c.args.toList with|none=>simp[R]at ho|some vs=>grind [Zdv,Xbh,Option.map_eq_some_iff,Prod.mk.inj,ZjT]
 cases hd;cases hd
def Keeps.load {H H':List Mem} (C:Keeps H H') {t:TypeId} {place i r:Nat} {v:PV} (j:Zcf P H t (.ptr place i r)=some v):Zcf P H' t (.ptr place i r)=some v:=by
 unfold Zcf at j|-;simp only at j|-;split at j;rename_i es z m hm;let⟨J,I⟩:=C _ _ _ _ hm
 rw[I];exact j;cases j
def KeepsZ (H H':List Mem) (a:Nat):Prop:= ∀ (es:List (List PV)) (z:Nat) (m:Bool),H[a]? =some (.row es z m)-> ∃es' j,H'[a]? =some (.row es' z j)
def Keeps.z {H H':List Mem} (j:Keeps H H') (a:Nat):KeepsZ H H' a:=λes z m h=>by
 let⟨C,I⟩:=j a es z m h
 exact⟨es,C,I⟩
def KeepsZ.index {H H':List Mem} {place:Nat} (R:KeepsZ H H' place) {t:TypeId} {i n m:Nat} {I v:PV} (C:Zar P H t (.ref place i n m) I=some v):Zar P H' t (.ref place i n m) I=some v:=by cases I with|int kk j=>(cases hu:P.underlying t with|none=>simp[Zar,hu]at C|some u=>cases u with|slice e=>(cases J:Zbi P e with|none=>simp[Zar,hu,J]at C|some z=>simp only[Zar,hu,J,Xad]at C|-;split at C;rename_i hj;split at C;rename_i es z' m' hm;(let⟨es',U,h2⟩:=R _ _ _ hm);grind;cases C;cases C)|_=>simp[Zar,hu]at C)|_=>simp[Zar]at C
def Zxk {H H':List Mem} {t:TypeId} {a i r:Nat} {b:Option PV} {v:PV} (j:Zbc P H t (some (.ptr a i r)) b=some v):Zbc P H' t (some (.ptr a i r)) b=some v:=by rw[<-j];cases b with|none=>simp[Zbc,Xad,Option.bind_none]|some C=>simp[Zbc,Xad];unfold Zar;grind
theorem Zzi {H H':List Mem} {t:TypeId} {es:List (List PV)} {I v:PV} (C:Zar P H t (.lst es) I=some v):Zar P H' t (.lst es) I=some v:=by
 cases I with
 |int kk j=>
  cases hu:P.underlying t with
  |none=>simp[Zar,hu]at C
  |some u=>cases u<;>first
   |(simp[Zar,hu]at C|-;exact C)
   |(simp[Zar,hu]at C;done)
 |_=>simp[Zar]at C
def Zyz {o:Oper} {acc:List (Nat×Oper×List (Nat×PV)×PV)} {x:Nat×Oper×List (Nat×PV)×PV} (j:x∈ZcW h o acc):x∈acc/\(isW h o=true->Zgo o x.1=false):=by refine⟨ZzX j,λhw=> ?_⟩;unfold ZcW at j;rw[hw,cond_true]at j;induction acc with|nil=>cases j|cons y acc C=>have j:x∈(bif Zgo o y.1 then _ else y::_:List _):=j;cases I:Zgo o y.1 with|true=>rw[I,cond_true]at j;exact C j|false=>grind
theorem ZkK {o:Oper} {y:Nat×Nat×Bool} (j:Zgo o y.1=false): ∀ {ks:List (Nat×Nat×Bool)},y∈ks->y∈ZAr o ks
 |x::r,hm=>by simp only[ZAr];rcases XaF.1 hm with rfl|hm;rw[j];exact Xah;split;exact ZkK j hm;exact Xai _ (ZkK j hm)
theorem Zxv {o:Oper} {y:Nat×Nat×Bool} {ks:List (Nat×Nat×Bool)} (hm:y∈ks) (j:isW h o=true->Zgo o y.1=false):y∈Zpd h o ks:=by grind [Zpd,ZkK]
def Accs.drop {o:Oper} {ks:List (Nat×Nat×Bool)} {H:List Mem} {acc:List (Nat×Oper×List (Nat×PV)×PV)} (j:Accs P φ ks H acc):Accs P φ (Zpd h o ks) H (ZcW h o acc):=by
 intro x C;let⟨I,J⟩:=Zyz C
 let⟨dst,op,ty,pos,after,g,e,R⟩:=j x I
 refine⟨dst,op,ty,pos,after,g,e, ?_⟩;grind [Zxv]
def Accs.more {ks:List (Nat×Nat×Bool)} {H:List Mem} {acc:List (Nat×Oper×List (Nat×PV)×PV)} {φ':Ph} (ha:Accs P φ ks H acc) (hl:Le φ φ') (y:Nat×Nat×Bool):Accs P φ' (y::ks) H acc:=by
 intro x hx;let⟨dst,op,ty,pos,after,g,e,hc⟩:=ha x hx
 refine⟨dst,op,ty,pos,after,g,e, ?_⟩;rcases hc with hc|hc|⟨t,y,j,place,i,n,m,jv,id,C,I,J,R,U,e6⟩|hc|⟨t,a,place,i,r,id,C,I,J,R,U⟩;exact .inl hc;exact .inr (.inl hc);exact .inr (.inr (.inl ⟨t,y,j,place,i,n,m,jv,id,C,I,J,Xai _ R,hl _ _ U,e6⟩));grind;exact .inr (.inr (.inr (.inr ⟨t,a,place,i,r,id,C,I,Xai _ J,hl _ _ R,U⟩)))
def Accs.mono {ks H acc φ'} (ha:Accs P φ ks H acc) (hl:Le φ φ'):Accs P φ' ks H acc:=by
 intro x hx;let⟨dst,op,ty,pos,after,g,e,hc⟩:=ha x hx
 refine⟨dst,op,ty,pos,after,g,e, ?_⟩;rcases hc with hc|hc|⟨t,y,j,place,i,n,m,jv,id,C,I,J,R,U,e6⟩|hc|⟨t,a,place,i,r,id,C,I,J,R,U⟩;exact .inl hc;exact .inr (.inl hc);exact .inr (.inr (.inl ⟨t,y,j,place,i,n,m,jv,id,C,I,J,R,hl _ _ U,e6⟩));grind;exact .inr (.inr (.inr (.inr ⟨t,a,place,i,r,id,C,I,J,hl _ _ R,U⟩)))
def Accs.keep {ks H H' acc φ'} (ha:Accs P φ ks H acc) (hl:Le φ φ') (hz: ∀i id place,(i,id,false)∈ks->φ[id]? =some (some place)->KeepsZ H H' place) (hd: ∀i id place,(i,id,true)∈ks->φ[id]? =some (some place)-> ∀t j r v,Zcf P H t (.ptr place j r)=some v->Zcf P H' t (.ptr place j r)=some v):Accs P φ' ks H' acc:=by
 intro x hx;let⟨dst,op,ty,pos,after,g,e,hc⟩:=ha x hx
 refine⟨dst,op,ty,pos,after,g,e, ?_⟩;rcases hc with hc|⟨t,y,j,es,jv,J,R,I,C⟩|⟨t,y,j,place,i,n,m,jv,id,J,R,I,C,U,e6⟩|hc|⟨t,a,place,i,r,id,J,R,I,C,U⟩;exact .inl hc;grind [Zzi];exact .inr (.inr (.inl ⟨t,y,j,place,i,n,m,jv,id,J,R,I,C,hl _ _ U,(hz _ _ _ C U).index e6⟩));grind;exact .inr (.inr (.inr (.inr ⟨t,a,place,i,r,id,J,R,I,hl _ _ C,hd _ _ _ I C _ _ _ _ U⟩)))
def ZgH {i id}: ∀ {ks:List (Nat×Nat×Bool)},(i,id,true)∈ks->id∈ZkN ks
 |(i',j,true)::r,hm=>by rcases XaF.1 hm with e|hm;cases e;exact Xah;exact Xai _ (ZgH hm)
 |(i',j,false)::r,hm=>by rcases XaF.1 hm with e|hm;cases e;show id∈ZkN r;exact ZgH hm
def Zu2 {L a sm z} (hm:RM φ L (some a) sm) (hw:ZHN sm=some z): ∃es m,L a=some (.row es z m):=by cases sm with|row t l m=>(let⟨es,j,C,_⟩:=hm);cases hw;exact⟨es,j,C⟩|cell cs m=>(let⟨a',I,j,J,C,R,_⟩:=hm);cases J;cases hw;refine⟨[I],j, ?_⟩;rw[C,R.len]|many ct U m=>(let⟨es,j,C,_⟩:=hm);cases hw;exact⟨es,j,C⟩|set ks=>cases hw|im t ks=>cases hw|dead=>cases hw
def Zq1 {hp hp' i id b}: ∀ {ks:List (Nat×Nat×Bool)},ZBx hp hp' ks=true->(i,id,b)∈ks-> ∃sm j z,hp[id]? =some sm/\hp'[id]? =some j/\ZHN sm=some z/\ZHN j=some z
 |(i',C,I)::r,h,hm=>by simp only[ZBx]at h;split at h;rename_i x y J R;simp only[Xas]at h;rcases XaF.1 hm with e|hm;grind [Option.bind_eq_some_iff,ZaA,Xay];exact Zq1 h.2 hm;cases h
def Zvr {i id b}: ∀ {ks:List (Nat×Nat×Bool)},(i,id,b)∈ks->id∈ZHI ks
 |(i',j,C)::r,hm=>by rcases XaF.1 hm with e|hm;cases e;exact Xah;exact Xai _ (Zvr hm)
def ZqA {H H' place} (I: ∀ (es:List (List PV)) (z:Nat) (m:Bool),H[place]? =some (.row es z m)-> ∃C,H'[place]? =some (.row es z C)) {t j r v} (J:Zcf P H t (.ptr place j r)=some v):Zcf P H' t (.ptr place j r)=some v:=by grind [Zcf]
def Zpr {H H' ρ E c q oi} (aa:ZwT φ tm ρ) (hd:ZKy tm c=some oi) (ho:opE P h E H ρ (.call c)=some (q,H')):
 ∀place,(∀id,some id=oi->φ[id]?≠some (some place))-> ∀ (es:List (List PV)) (z:Nat) (m:Bool),H[place]? =some (.row es z m)-> ∃m',H'[place]? =some (.row es z m'):=by
 have ho:ZiJ P h E H ρ c=some (q,H'):=ho;unfold ZKy at hd;unfold ZiJ at ho;split at hd;rename_i hc;rw[hc]at ho;have ho:=ho;unfold Zfd at ho;let⟨vs,h1,g1⟩:=Zam ho
 split at g1;rename_i s x;split at hd;rename_i y ys hy;rw[hy]at h1;let⟨b,r,h2,h3,h4⟩:=ZaM h1
 obtain⟨rfl,rfl⟩:b=s/\r=[x]:=by cases h4;exact⟨rfl,rfl⟩
 have key: ∀ {H1:List Mem} {x1:PV},Zet P H1 c.argTypes b x1=some (q,H')-> ∀place,(∀i n m,b= .ref place i n m->False)-> ∀m1,H1[place]? =some m1->H'[place]? =some m1:=by intro H1 x1 C place R m1 I;unfold Zet at C;(let⟨t,_,C⟩:=Zam C);(let⟨e,_,C⟩:=Zam C);(let⟨z,_,C⟩:=Zam C);(let⟨by_,_,C⟩:=Zam C);(let⟨zero,_,C⟩:=Zam C);(let⟨new,_,C⟩:=Zam C);(let⟨_,C⟩:=Zau C);have ab:=(Xaf.1 I).1;cases b with|nils=>simp[ZbQ]at C;split at C;cases C;exact I;(let⟨_,C⟩:=Zau C);cases C;rw[Xan ab];exact I|ref id j n room=>have ad:id≠place:=(by rintro rfl;exact R _ _ _ rfl);simp[ZbQ]at C;split at C;(let⟨_,C⟩:=Zau C);split at C;cases C;exact I;split at C;(let⟨_,C⟩:=Zau C);cases C;rw[XaL ad];exact I;(let⟨_,C⟩:=Zau C);cases C;rw[Xan (by simpa using ab),XaL ad];exact I;cases C|_=>simp[ZbQ]at C
 intro place ae es z m hm;have R: ∀i n m,b= .ref place i n m->False:=by rintro i n m rfl;split at hd;rename_i U;(let⟨p,hp1,J⟩:=aa _ _ U);simp[RV]at J;rw[h2]at hp1;cases hp1;cases J;rename_i id i2 n2 m2 U;(let⟨p,hp1,J⟩:=aa _ _ U);rw[h2]at hp1;cases hp1;simp only[RV]at J;cases hd;rcases J with⟨a,h5,h6⟩|⟨_,h6,_⟩;cases h6;exact ae _ rfl h5;cases h6;cases hd
 unfold Zev at g1;cases hf:Am.frzT h c.argTypes with|false=>rw[hf,cond_false]at g1;exact⟨m,key g1 place R _ hm⟩|true=>rw[hf,cond_true]at g1;(let⟨x',_,h7⟩:=Zam g1);(let⟨m',h8,h9⟩:=ZdJ (rch ZaZ H x) H place _ hm);cases m'<;>simp[simM]at h9;obtain⟨rfl,rfl⟩:=h9;exact⟨_,key h7 place R _ h8⟩
 cases hd;cases g1;cases hd
theorem ZkS {H H' t p} (hp: ∀id,p≠ .map id):ZeW P H' t p=ZeW P H t p:=by unfold ZeW;cases P.underlying t with|none=>rfl|some u=>cases u<;>cases p<;>first|rfl|exact absurd rfl (hp _)
def Zx3 {H ρ c} (j:ZwT φ tm ρ) (I:ZLM tm c=true): ∃r:List Mem->Option PV,(∀ (h:Hints) (E:Ev) (H:List Mem),opE P h E H ρ (.call c)=Zcz H (r H))/\(∀ (h:Hints) (E:Ev) (H':List Mem) (dst:Option Tmp) (ty:TypeId) (pos:String) (after:Array Edge),ZaU P h E H' ρ ⟨dst, .call c,ty,pos,after,none⟩=r H)/\ ∀H',r H'=r H:=by
 let⟨callee,args,ts⟩:=c
 cases callee<;>first|(cases I;done)|skip
 case builtin b=>
  have main:(∀H',((Za3 ρ args.toList).bind λvs=>Zcg P H' b ts vs)=(Za3 ρ args.toList).bind λvs=>Zcg P H b ts vs)->(∀ (h:Hints) (E:Ev) (H:List Mem),opE P h E H ρ (.call ⟨.builtin b,args,ts⟩)=Zcz H ((Za3 ρ args.toList).bind λvs=>Zcg P H b ts vs))->_:=λU ho=>
   (⟨λH'=>(Za3 ρ args.toList).bind λvs=>Zcg P H' b ts vs,ho,λ_ E H' dst ty pos after=>(Zdh _).trans (U H'),U⟩: ∃r:List Mem->Option PV,(∀ (h:Hints) (E:Ev) (H:List Mem),opE P h E H ρ (.call ⟨.builtin b,args,ts⟩)=Zcz H (r H))/\(∀ (h:Hints) (E:Ev) (H':List Mem) (dst:Option Tmp) (ty:TypeId) (pos:String) (after:Array Edge),ZaU P h E H' ρ ⟨dst, .call ⟨.builtin b,args,ts⟩,ty,pos,after,none⟩=r H)/\ ∀H',r H'=r H)
  cases b
  case min=>exact main (λH'=>congrArg (Option.bind _) (funext λvs=>by cases vs<;>rfl)) (λ_ _ _=>rfl)
  case max=>exact main (λH'=>congrArg (Option.bind _) (funext λvs=>by cases vs<;>rfl)) (λ_ _ _=>rfl)
  case len=>
   refine main (λH'=> ?_) (λ_ _ _=>rfl)
   simp[ZLM]at I
   split at I
   ·rename_i ct xs he
    let⟨qs,J,C⟩:=Zkx j he
    rw[J]
    simp only[RL]at C
    grind [ZjN,Zcg,ZkS]
   ·rename_i he
    let⟨qs,J,C⟩:=Zkx j he
    rw[J]
    simp only[RL]at C
    obtain⟨q,_,rfl,R,rfl⟩:=C
    simp[RV]at R
    subst R
    have e:=λt=>ZkS (P:=P) (H:=H) (H':=H') (t:=t) (p:= .nils) (λid e=>by cases e)
    simp[Zcg,e]
   ·rename_i he
    let⟨qs,J,C⟩:=Zkx j he
    rw[J]
    simp only[RL]at C
    obtain⟨q,_,rfl,R,rfl⟩:=C
    simp[RV]at R
    have: ∀id,q≠ .map id:=λid e=>by
     rcases R with⟨_,_,rfl⟩|⟨_,rfl,_⟩<;>cases e
    simp[Zcg,ZkS (H:=H) (H':=H') this]
   ·cases I
  all_goals cases I
def ZkG (hT:TysOK P T) {N ls}: ∀ (l:List Oper) (i:Nat) (ks:List (Nat×Nat×Bool)) (tm:TM) (hp:List SM) (k:TM->List SM->Prop) (φ:Ph) (st:St) (acc:List (Nat×Oper×List (Nat×PV)×PV)),ZaL P h T N ls l i ks tm hp k->noG l=true->SRep φ tm hp st->Accs P φ ks st.hp acc->
 ∃ad φ' tm' hp',ZsL P h (lim P h) N ls l i acc st=some ad/\Le φ φ'/\SRep φ' tm' hp' ad/\k tm' hp'
 | [],i,ks,tm,hp,k,φ,st,acc,hw,_,hs,_=>⟨st,φ,tm,hp,rfl,Le.refl φ,hs,hw⟩
 |⟨dst,op,ty,pos,after,some g⟩::l,i,ks,tm,hp,k,φ,st,acc,hw,hg,hs,C=>by cases hg
 |⟨dst,op,ty,pos,after,none⟩::l,i,ks,tm,hp,k,φ,⟨t0,H⟩,acc,hw,hg,hs,C=>by
  have hg:noG l=true:=hg;simp[ZaL]at hw;split at hw
  ·rename_i hi;have light: ∀ (ks2:List (Nat×Nat×Bool)) (r:Option PV),opE P h (lim P h) H (Am.ev t0) op=Zcz H r->ZaU P h (lim P h) H (Am.ev t0) ⟨dst,op,ty,pos,after,none⟩=r->(∀q I,r=some q->Le φ I->Accs P I ks2 H ((i,⟨dst,op,ty,pos,after,none⟩,t0,q)::acc))->
    opT P h T op tm hp (λV hp'=>ZcX N dst V tm λtm'=>ZaL P h T N ls l (i+1) ks2 tm' hp' k)-> ∃ad φ' tm' hp',ZsL P h (lim P h) N ls (⟨dst,op,ty,pos,after,none⟩::l) i acc ⟨t0,H⟩=some ad/\Le φ φ'/\SRep φ' tm' hp' ad/\k tm' hp':=by
    intro ks2 r hr hl ha ho;(let⟨q,H',I,V,hp1,h1,h2,h3,h4,h5⟩:=ZAm hT hs.hp hs.ev ho);rw[hr]at h1;cases r with|none=>cases h1|some q'=>obtain⟨rfl,rfl⟩:q'=q/\H=H':=(by cases h1;exact⟨rfl,rfl⟩);have an:=hs.mono h2 h3;(let⟨tm0,tm',h6,h7,h8⟩:=Zog an h4 h5);(let⟨ad,φ',ao,R,h9,aq,ar,au⟩:=ZkG hT l (i+1) ks2 tm' hp1 k I _ ((i,⟨dst,op,ty,pos,after,none⟩,t0,q')::acc) h8 hg h7 (ha q' I rfl h2));refine⟨ad,φ',ao,R, ?_,h2.trans aq,ar,au⟩;rw[Zwa _ _ _ _ _ _ _ _ _ _ _ _ hi,hl];simp[ZJT];rw[show ZgX N dst q' t0=some tm0 from h6];exact h9
   split at hw;rename_i t a;split at hw;rename_i id j r ab;(let⟨p,J,R⟩:=hs.ev _ _ ab);simp[RV]at R;obtain⟨place,aa,rfl⟩:=R;refine light _ (Zn6 P H t (Am.ev t0 a)) rfl (Zi9 _ _ _ _ _ _ _) (λq I U hl x hx=> ?_) hw;rcases XaF.1 hx with rfl|hx;rw[show Am.ev t0 a=_ from J]at U;exact⟨dst,_,ty,pos,after,none,rfl, .inr (.inr (.inr (.inr ⟨t,a,place,j,r,id,rfl,J,Xah,hl _ _ aa,U⟩)))⟩;exact(C.more hl _) x hx;rename_i ct y r ab;(let⟨p,J,R⟩:=hs.ev _ _ ab);simp[RV]at R;obtain⟨cs,rfl,_⟩:=R;refine light _ (Zn6 P H t (Am.ev t0 a)) rfl (Zi9 _ _ _ _ _ _ _) (λq I U hl x hx=> ?_) hw;rcases XaF.1 hx with rfl|hx;rw[show Am.ev t0 a=_ from J]at U;exact⟨dst,_,ty,pos,after,none,rfl, .inr (.inr (.inr (.inl ⟨t,a,cs,r,rfl,J,U⟩)))⟩;exact(C.mono hl) x hx;cases hw;rename_i y;refine light _ (Am.ev t0 y) rfl (Znq _ _ _ _ _ _) (λq I U hl x hx=> ?_) hw;rcases XaF.1 hx with rfl|hx;exact⟨dst,_,ty,pos,after,none,rfl, .inl λh E H'=>(Znq _ _ _ _ _ _).trans U⟩;exact(C.mono hl) x hx
   ·rename_i t y j;split at hw
    ·rename_i id i2 n2 m2 ab;(let⟨p,J,R⟩:=hs.ev _ _ ab);simp[RV]at R;refine light _ (Zbc P H t (Am.ev t0 y) (Am.ev t0 j)) rfl (Zci _ _ _ _ _ _ _ _) (λq I U hl x hx=> ?_) hw;rcases XaF.1 hx with rfl|hx
     ·rw[show Am.ev t0 y=_ from J]at U;cases hj:Am.ev t0 j with
      |none=>simp[Zbc,hj]at U
      |some jv=>
       rw[hj]at U;have U:Zar P H t p jv=some q:=U;rcases R with⟨place,aa,rfl⟩|⟨_,rfl,_⟩;exact⟨dst,_,ty,pos,after,none,rfl, .inr (.inr (.inl ⟨t,y,j,place,i2,n2,m2.getD n2,jv,id,rfl,J,hj,Xah,hl _ _ aa,U⟩))⟩
       ·exfalso;unfold Zar at U;cases jv<;>first
         |(cases U;done)
         |(cases hu:P.underlying t with
          |none=>simp at U
          |some u=>cases u<;>simp[hu]at U)
     exact(C.more hl _) x hx
    ·rename_i ct xs ab;(let⟨p,J,R⟩:=hs.ev _ _ ab);refine light _ (Zbc P H t (Am.ev t0 y) (Am.ev t0 j)) rfl (Zci _ _ _ _ _ _ _ _) (λq I U hl x hx=> ?_) hw;rcases XaF.1 hx with rfl|hx
     ·rw[show Am.ev t0 y=_ from J]at U;cases hj:Am.ev t0 j with
      |none=>simp[Zbc,hj]at U
      |some jv=>
       rw[hj]at U;have U:Zar P H t p jv=some q:=U;rcases ZjN R with⟨rfl,_⟩|⟨es,rfl,_⟩
       ·exfalso;unfold Zar at U;cases jv<;>first
         |(cases U;done)
         |(cases hu:P.underlying t with
          |none=>simp[hu]at U
          |some u=>cases u<;>simp[hu]at U)
       exact⟨dst,_,ty,pos,after,none,rfl, .inr (.inl ⟨t,y,j,es,jv,rfl,J,hj,U⟩)⟩
     exact(C.mono hl) x hx
    rename_i id i2 r2 ab;(let⟨p,J,R⟩:=hs.ev _ _ ab);simp[RV]at R;obtain⟨place,_,rfl⟩:=R;refine light _ (Zbc P H t (Am.ev t0 y) (Am.ev t0 j)) rfl (Zci _ _ _ _ _ _ _ _) (λq I U hl x hx=> ?_) hw;rcases XaF.1 hx with rfl|hx;rw[show Am.ev t0 y=_ from J]at U;exact⟨dst,_,ty,pos,after,none,rfl, .inl λh E H'=>(Zci _ _ _ _ _ _ _ _).trans (by rw[show Am.ev t0 y=_ from J];exact Zxk U)⟩;exact(C.mono hl) x hx;cases hw
   rename_i bo t y z zt;refine light _ (Zsh P bo t z (Am.ev t0 y) (Am.ev t0 z)) rfl (Zdh _) (λq I U hl x hx=> ?_) hw;rcases XaF.1 hx with rfl|hx;exact⟨dst,_,ty,pos,after,none,rfl, .inl λh E H'=>(Zdh _).trans U⟩;exact(C.mono hl) x hx;rename_i t y lo hi mx;split at hw;rename_i ct xs ab;(let⟨p,J,R⟩:=hs.ev _ _ ab);have a1: ∀H',Zc1 P H' (Am.ev t0) t y lo hi mx=Zc1 P H (Am.ev t0) t y lo hi mx:=λH'=>by
      unfold Zc1;rw[show Am.ev t0 y=_ from J];have a6: ∀ (H1 H2:List Mem) l k m,ZcE P H1 t p l k m=ZcE P H2 t p l k m:=λH1 H2 l k m=>by
       rcases ZjN R with⟨rfl,_⟩|⟨es,rfl,_⟩<;>(unfold ZcE;cases P.underlying t with
        |none=>rfl
        |some u=>cases u<;>rfl)
      simp[Xad,a6 H' H]
   refine light _ (Zc1 P H (Am.ev t0) t y lo hi mx) rfl (Zdh _) (λq I U hl x hx=> ?_) hw;rcases XaF.1 hx with rfl|hx;exact⟨dst,_,ty,pos,after,none,rfl, .inl λh E H'=>(Zdh _).trans ((a1 H').trans U)⟩;exact(C.mono hl) x hx;cases hw;rename_i c;split at hw;rename_i U;(let⟨r,h1,h2,h3⟩:=Zx3 (P:=P) (H:=H) hs.ev U);refine light _ (r H) (h1 _ _ _) (h2 _ _ _ _ _ _ _) (λq I a7 hl x hx=> ?_) hw;rcases XaF.1 hx with rfl|hx;exact⟨dst,_,ty,pos,after,none,rfl, .inl λh' E H'=>(h2 h' E H' _ _ _ _).trans a7⟩;exact(C.mono hl) x hx;cases hw;cases hw
  rename_i hi;have C:=C.drop (h:=h) (o:=⟨dst,op,ty,pos,after,none⟩);have step: ∀ (ks2:List (Nat×Nat×Bool)) (kk:SV->List SM->Prop),opT P h T op tm hp kk->(∀V hp1,kk V hp1->ZcX N dst V tm λtm'=>ZaL P h T N ls l (i+1) ks2 tm' hp1 k)->(∀ (q:PV) (H':List Mem) (I:Ph) (V:SV) (hp1:List SM),opE P h (lim P h) H (Am.ev t0) op=some (q,H')->Le φ I->RH I hp1 (λa=>H'[a]?)->kk V hp1->Accs P I ks2 H' (ZcW h ⟨dst,op,ty,pos,after,none⟩ acc))->
    ∃ad φ' tm' hp',ZsL P h (lim P h) N ls (⟨dst,op,ty,pos,after,none⟩::l) i acc ⟨t0,H⟩=some ad/\Le φ φ'/\SRep φ' tm' hp' ad/\k tm' hp':=by
    intro ks2 kk ho a8 ha;(let⟨q,H',I,V,hp1,h1,h2,h3,h4,h5⟩:=ZAm hT hs.hp hs.ev ho);have ha:=ha q H' I V hp1 h1 h2 h3 h5;have an:=hs.mono h2 h3;(let⟨tm0,tm',h6,h7,h8⟩:=Zog an h4 (a8 _ _ h5));(let⟨ad,φ',ao,R,h9,aq,ar,au⟩:=ZkG hT l (i+1) ks2 tm' hp1 k I _ (ZcW h ⟨dst,op,ty,pos,after,none⟩ acc) h8 hg h7 ha);refine⟨ad,φ',ao,R, ?_,h2.trans aq,ar,au⟩;rw[Zv1 _ _ _ _ _ _ _ _ _ _ _ _ hi,h1];simp[ZGc];rw[show ZgX N dst q t0=some tm0 from h6];simp[Xad,Zu8 ha,ZJy];exact h9
  split at hw;rename_i hd;rw[hd]at C;exact step [] _ hw (λ_ _ h=>h) λq H' I V hp1 h1 h2 _ _=>C.keep h2 (λ_ _ _ hm=>absurd hm Xaq) (λ_ _ _ hm=>absurd hm Xaq);rename_i y af hd;rw[hd]at C;split at hw;rename_i U;refine step (y::af) _ hw (λ_ _ h=>h) λq H' I V hp1 h1 h2 _ _=> ?_;have hk:=ZrW U h1;exact C.keep h2 (λ_ _ place _ _=>hk.z place) (λ_ _ _ _ _ _ _ _ _ hv=>hk.load hv);rename_i U;split at hw;rename_i hl;refine step (y::af) _ hw (λV hp1 h=>by unfold ZGC at h;split at h<;>first|exact h|cases h) λq H' I V hp1 h1 h2 h3 h4=> ?_;unfold ZGC at h4;split at h4;rename_i az;refine C.keep h2 (λj id place hm aa es z m ae=> ?_) (λj id place hm=> ?_);(let⟨sm,bf,z',e1,e2,e3,e4⟩:=Zq1 az hm);(let⟨bg,m1,g1⟩:=Zu2 (hs.hp.row _ _ _ e1 aa) e3);(let⟨ba,m2,g2⟩:=Zu2 (h3.row _ _ _ e2 (h2 _ _ aa)) e4);have g1:=g1;rw[ae]at g1;cases g1;exact⟨ba,m2,g2⟩;have:=ZgH hm;rw[hl]at this;cases this;cases h4;rename_i bh ids hl;split at hw;rename_i t a x;split at hw;rename_i aj j r ab;split at hw;rename_i hb;simp[Xas,XbM]at hb;(let⟨⟨av,aw⟩,ax⟩:=hb);refine step (y::af) _ hw (λ_ _ h=>h) λq H' I V hp1 h1 h2 _ _=> ?_;(let⟨p,J,R⟩:=hs.ev _ _ ab);simp[RV]at R;obtain⟨ah,ai,rfl⟩:=R;have ag:ZfW P H t (Am.ev t0 a) (Am.ev t0 x)=some (q,H'):=h1;rw[show Am.ev t0 a=_ from J]at ag;simp[ZfW,Xad]at ag;(cases hx:(Am.ev t0 x).bind Zj3 with|none=>simp[hx]at ag|some v=>simp[hx,Xad]at ag;cases ak:Zdo P H t (.ptr ah j r) v with|none=>simp[ak]at ag|some H2=>simp[ak,Xau,Xaj,Prod.mk.injEq]at ag;obtain⟨rfl,rfl⟩:=ag;refine C.keep h2 (λ_ _ place _ _ es z m ae=>ZDl ak ae) (λ_ id pl hm aa t2 j2 r2 w hw=> ?_);have hid:=ZgH hm;rw[hl]at hid;have al:pl≠ah:=(by rintro rfl;(let⟨m1,g1,g2⟩:=Ze3 av);(let⟨m2,g3,g4⟩:=Ze3 (Zi8 aw hid));exact hs.hp.inj aj id m1 m2 pl (ZnR ax hid) g1 g3 g2 g4 ai aa);rw[<-hw];simp[Zcf,ZjH ak al]);cases hw;cases hw;rename_i c;split at hw;rename_i bc;refine step (y::af) _ hw (λ_ _ h=>h) λq H' I V hp1 h1 h2 _ _=> ?_;have hk:=Zym hs.ev bc h1;exact C.keep h2 (λ_ _ place _ _=>hk.z place) (λ_ _ _ _ _ _ _ _ _ hv=>hk.load hv);split at hw;rename_i ay;refine step (y::af) _ hw (λ_ _ h=>h) λq H' I V hp1 h1 h2 _ _=> ?_;have hk:=Zpr (φ:=φ) hs.ev ay h1;exact C.keep h2 (λ_ _ place _ _ es z m hm=>by let⟨m',h3⟩:=hk place (by rintro _ ⟨⟩) es z m hm;exact⟨es,m',h3⟩) (λ_ _ place _ _ t j r v hv=>ZqA (hk place (by rintro _ ⟨⟩)) hv);rename_i aj ay;split at hw;rename_i hb;simp[Xas,XbM]at hb;(let⟨⟨av,aw⟩,ax⟩:=hb);refine step (y::af) _ hw (λ_ _ h=>h) λq H' I V hp1 h1 h2 _ _=> ?_;have hk:=Zpr (φ:=φ) hs.ev ay h1;have al: ∀ (n id place:Nat) (bb:Bool),(n,id,bb)∈y::af->φ[id]? =some (some place)-> ∀i2,some i2=some aj->φ[i2]?≠some (some place):=by rintro n id place bb hm aa _ ⟨⟩ ai;have hid:=Zvr hm;(let⟨m1,g1,g2⟩:=Ze3 av);(let⟨m2,g3,g4⟩:=Ze3 (Zi8 aw hid));exact hs.hp.inj aj id m1 m2 place (ZnR ax hid) g1 g3 g2 g4 ai aa
  refine C.keep h2 (λn id place hm aa es z m ae=> ?_) (λn id place hm aa t j r v hv=> ?_);(let⟨m',h3⟩:=hk place (al _ _ _ _ hm aa) es z m ae);exact⟨es,m',h3⟩;exact ZqA (hk place (al _ _ _ _ hm aa)) hv;cases hw;cases hw;cases hw
theorem ZyY: ∀l,ZIU l=l.map (·.dst)
 | []=>rfl
 |o::r=>by simp[ZIU,ZyY r]
def Fr.len {φ φ'} (h:Fr F φ φ') (j:F<=φ.length):F<=φ'.length:=by cases F with|zero=>exact Xak _|succ n=>have C:=h n oM;grind
def ZqN (hT:TysOK P T) c: ∀ (code:Code) (tm:TM) (hp:List SM) (k:Ex->TM->List SM->Prop) (φ:Ph) (st:St),wp P h T F c code tm hp k->F<=φ.length->SRep φ tm hp st->
 ∃e C φ' tm' hp',exS P h (lim P h) c code st=some (e,C)/\Fr F φ φ'/\SRep φ' tm' hp' C/\k e tm' hp'
 | .skip,tm,hp,k,φ,st,hw,_,I=>⟨.normal,st,φ,tm,hp,rfl,Fr.refl F φ,I,hw⟩
 | .label _,tm,hp,k,φ,st,hw,_,I=>⟨.normal,st,φ,tm,hp,rfl,Fr.refl F φ,I,hw⟩
 | .exit id,tm,hp,k,φ,st,hw,_,I=>⟨.exit id,st,φ,tm,hp,rfl,Fr.refl F φ,I,hw⟩
 | .ret,tm,hp,k,φ,st,hw,_,I=>⟨.ret,st,φ,tm,hp,rfl,Fr.refl F φ,I,hw⟩
 | .loop b,tm,hp,k,φ,st,hw,hF,I=>by(let⟨e,C,φ',tm',hp',J,R,h3,h4⟩:=LoopOK.out hw φ st hF I);exact⟨e,C,φ',tm',hp',J,R,h3,h4⟩
 | .region id ops d,tm,hp,k,φ,st,hw,hF,I=>by
  have key: ∀os,wpR P h T c.N (h.light c.fid id) os tm hp (λtm' hp'=>k .normal tm' hp')->rgo (h.perm c.fid id) ops=os-> ∃e C φ' tm' hp',exS P h (lim P h) c (.region id ops d) st=some (e,C)/\Fr F φ φ'/\SRep φ' tm' hp' C/\k e tm' hp':=by intro os hw ho;unfold wpR at hw;split at hw;rename_i hl;(let⟨C,φ',tm',hp',J,R,h3,h4⟩:=ZnC hT _ _ _ _ _ _ hw I);refine⟨.normal,C,φ',tm',hp', ?_,R.fr hF,h3,h4⟩;grind [exS,ZCo,ZyY];rename_i j ls hl;split at hw;rename_i hg;(let⟨C,φ',tm',hp',J,R,h3,h4⟩:=ZkG hT _ _ _ _ _ _ _ _ [] hw hg I (λx hx=>by cases hx));refine⟨.normal,C,φ',tm',hp', ?_,R.fr hF,h3,h4⟩;rw[ZAZ,hl,ho,ZzP _ _ _ _ _ hg,J];rfl;cases hw
  simp[wp]at hw;split at hw;rename_i hp;exact key _ hw (by rw[hp];rfl);rename_i hp;exact key _ hw (by rw[hp])
 | .seq a b,tm,hp,k,φ,st,hw,hF,I=>by(let⟨e,st1,U,tm1,hp1,J,R,h3,h4⟩:=ZqN hT c a _ _ _ φ st hw hF I);cases e with|normal=>(let⟨e,C,φ',tm',hp',g1,g2,g3,g4⟩:=ZqN hT c b _ _ _ U st1 h4 (R.len hF) h3);exact⟨e,C,φ',tm',hp',by simp[exS,J,Zg2,g1],R.trans g2,g3,g4⟩|exit j=>exact⟨_,st1,U,tm1,hp1,by simp[exS,J,Zg2],R,h3,h4⟩|ret=>exact⟨_,st1,U,tm1,hp1,by simp[exS,J,Zg2],R,h3,h4⟩
 | .cond x a b,tm,hp,k,φ,st,hw,hF,I=>by simp[wp]at hw;split at hw;rename_i t ht;(let⟨q,J,R⟩:=I.ev _ _ ht);rw[Zff R]at J;(cases t with|true=>(let⟨e,C,φ',tm',hp',g1,g2,g3,g4⟩:=ZqN hT c a _ _ _ φ st (hw.1 rfl) hF I);exact⟨e,C,φ',tm',hp',by simp[exS,J,ZlF,g1],g2,g3,g4⟩|false=>(let⟨e,C,φ',tm',hp',g1,g2,g3,g4⟩:=ZqN hT c b _ _ _ φ st (hw.2 rfl) hF I);exact⟨e,C,φ',tm',hp',by simp[exS,J,ZlF,g1],g2,g3,g4⟩);cases hw
 | .block id b,tm,hp,k,φ,st,hw,hF,I=>by simp[wp]at hw;split at hw;rename_i hk;(let⟨e,st1,U,tm1,hp1,J,R,h3,h4⟩:=ZqN hT c b _ _ _ φ st hw hF I);(cases e with|normal=>exact⟨.normal,st1,U,tm1,hp1,by simp[exS,J,Xad,ZdF,hk,ZfN,Xau],R,h3,h4⟩|exit j=>simp[ZAP]at h4;split at h4;rename_i hj;have hj:=Xay hj;exact⟨.normal,st1,U,tm1,hp1,by simp[exS,J,Xad,ZdF,hk,ZfN,Xau,if_pos hj],R,h3,h4⟩;rename_i hj;have hj:j≠id:=λe=>(by subst e;simp at hj);exact⟨.exit j,st1,U,tm1,hp1,by simp[exS,J,Xad,ZdF,if_neg hj],R,h3,h4⟩|ret=>exact⟨.ret,st1,U,tm1,hp1,by simp[exS,J,Xad,ZdF],R,h3,h4⟩);cases hw
 | .goto _,_,_,_,_,_,hw,_,_| .refuse _,_,_,_,_,_,hw,_,_| .rangeFunc _ _ _ _,_,_,_,_,_,hw,_,_| .scope _,_,_,_,_,_,hw,_,_=>hw.elim
def ZrP: ∀ {t C:CT} {l:List t.D} {I:List C.D},ZI3 t C l I->t=C/\HEq l I:=by intro t C l I j;unfold ZI3 at j;split at j;grind [Zg6];grind;grind;split at j;rename_i J;have:=ZiB J;subst this j;exact⟨rfl,HEq.rfl⟩;cases j
def Zl8 (φ:Ph):List Im->Ph
 | []=> []
 | .is i::r=>(match φ[i]? with|some o=>o|none=>none)::Zl8 φ r
 | .nil::r=>none::Zl8 φ r
def Zo0 φ: ∀σ,(Zl8 φ σ).length=σ.length
 | []=>rfl
 | .is i::r=>by simp[Zl8,Xao,Zo0 φ r]
 | .nil::r=>by simp[Zl8,Xao,Zo0 φ r]
def Zgn φ: ∀ (σ:List Im) (j i:Nat) (o:Option Nat),nth σ j=some (.is i)->φ[i]? =some o->(Zl8 φ σ)[j]? =some o
 | .is i'::r,0,i,o,h,ho=>by grind [nth,Xaj,Zl8]
 | .nil::r,0,i,o,h,ho=>by simp[nth]at h
 | .is i'::r,j+1,i,o,h,ho=>by simpa[Zl8]using Zgn φ r j i o h ho
 | .nil::r,j+1,i,o,h,ho=>by simpa[Zl8]using Zgn φ r j i o h ho
def Zkk φ: ∀ (σ:List Im) (j:Nat),nth σ j=some .nil->(Zl8 φ σ)[j]? =some none
 | .nil::r,0,h=>by simp[Zl8]
 | .is i'::r,0,h=>by simp[nth]at h
 | .is i'::r,j+1,h=>by simpa[Zl8]using Zkk φ r j h
 | .nil::r,j+1,h=>by simpa[Zl8]using Zkk φ r j h
def ZzE {σ} (hl:φ.length=hp.length): ∀ {V V':SV} {q:PV},ZKB σ V V'->RV φ V q->RV (Zl8 φ σ) V' q:=by
 intro V V' q j C;unfold ZKB at j;split at j;split at j;rename_i R;have:=Zg6 R;subst this j;simpa only[RV]using C;cases j;subst j;simpa only[RV]using C;subst j;simpa only[RV]using C;subst j;simpa only[RV]using C;obtain⟨rfl,I⟩:=ZrP j;have I:=eq_of_heq I;subst I;simpa only[RV]using C;simp[RV]at C;subst C j;show RR _ _ _;exact .inl ⟨rfl,rfl⟩;simpa only[RV]using C;simpa only[RV]using C;simpa only[RV]using C;simpa only[RV]using C;simp[RV]at C;subst C;split at j;rename_i hn;simp only[RV];exact .inr ⟨Zkk φ σ _ hn,trivial,j⟩;cases j;split at j;rename_i d hn;split at j;rename_i hd;have hd:=Xay hd;subst hd;obtain⟨rfl,rfl,hm⟩:=j;simp[RV]at C|-;rcases C with⟨a,J,I⟩|⟨J,I,U,h4,h5⟩;exact .inl ⟨a,Zgn φ σ _ _ _ hn J,by rw[hm];exact I⟩;exact .inr ⟨Zgn φ σ _ _ _ hn J,I,U,h4,by rw[hm];exact h5⟩;cases j;cases j;split at j;rename_i d hn;split at j;rename_i hd;have hd:=Xay hd;subst hd;obtain⟨rfl,rfl⟩:=j;simp[RV]at C|-;let⟨a,J,I⟩:=C
 exact⟨a,Zgn φ σ _ _ _ hn J,I⟩;cases j;cases j;obtain⟨J,rfl⟩:=j;obtain⟨rfl,I⟩:=ZrP J;have I:=eq_of_heq I;cases I;simpa only[RV]using C;cases j
theorem ZhO {σ} (hl:φ.length=hp.length): ∀ {l I:List SV} {j:List PV},Zr5 σ l I->RL φ l j->RL (Zl8 φ σ) I j
 | [],[],j,_,C=>by simpa only[RL]using C
 |a::l,b::r,j,J,C=>by simp only[RL]at C|-;obtain⟨q,R,rfl,U,h2⟩:=C;exact⟨q,R,rfl,ZzE hl J.1 U,ZhO hl J.2 h2⟩
def ZGK {σ} (hl:φ.length=hp.length) {V V' q} (j:ZKr σ V V') (C:RV φ V q):RV (Zl8 φ σ) V' q:=by unfold ZKr at j;split at j;obtain⟨rfl,I,J⟩:=j;simp[RV]at C|-;grind [ZhO];simp[RV]at C|-;grind [ZhO];simp[RV]at C|-;grind [ZhO];exact ZzE hl j C
def ZnH: ∀ {σ:List Im} {j U i:Nat},ZhH σ=true->j≠U->nth σ j=some (.is i)->nth σ U=some (.is i)->False
 | .nil::r,0,_,_,_,_,C,_=>by simp[nth]at C
 | .nil::r,_,0,_,_,_,_,I=>by simp[nth]at I
 | .nil::r,j+1,U+1,i,J,R,C,I=>ZnH (σ:=r) J oM C I
 | .is x::r,0,0,_,_,R,_,_=>R rfl
 | .is x::r,0,U+1,i,J,_,C,I=>by simp[ZhH,Xas]at J;simp[nth,Xaj]at C;subst C;have:=I;rw[ZaA]at this;have:=J.1 _ (XaC this);simp at this
 | .is x::r,j+1,0,i,J,_,C,I=>by simp[ZhH,Xas]at J;simp[nth,Xaj]at I;subst I;have:=C;rw[ZaA]at this;have:=J.1 _ (XaC this);simp at this
 | .is x::r,j+1,U+1,i,J,R,C,I=>by simp[ZhH,Xas]at J;exact ZnH J.2 oM C I
def Zug {σ}: ∀ {ss:List Im} {ms:List SM} {j:Nat} {m:SM},ZAf σ hp ss ms->ms[j]? =some m-> ∃s,nth ss j=some s/\ZLc σ hp s m
 |_,[],j,m,_,h=>by simp at h
 | [],_::_,_,_,C,_=>C.elim
 |s::ss,I::ms,0,m,C,h=>by simp at h;subst h;exact⟨s,rfl,C.1⟩
 |s::ss,I::ms,j+1,m,C,h=>Zug (ss:=ss) C.2 (by simpa using h)
def RH.view {L} (hh:RH φ hp L) {σ hp'} (hlen:σ.length=hp'.length) (J:ZhH σ=true) (hs:ZAf σ hp σ hp'):RH (Zl8 φ σ) hp' L:=by
 have ph: ∀ {i:Nat} {m:SM},nth hp i=some m-> ∃o,φ[i]? =some o/\RM φ L o m:=λh=>hh.ph h
 have at_: ∀ {j:Nat} {m:SM} {o:Option Nat},hp'[j]? =some m->(Zl8 φ σ)[j]? =some o->RM (Zl8 φ σ) L o m/\(∀a,o=some a->live m=true-> ∃i m0,nth σ j=some (.is i)/\nth hp i=some m0/\live m0=true/\φ[i]? =some (some a)):=by intro j m o hm ho;(let⟨s,R,I⟩:=Zug hs hm);unfold ZLc at I;split at I;rename_i id t' l' m';split at I;rename_i t l m0 C;(let⟨o',U,h4⟩:=ph C);have h5:=Zgn φ σ _ _ _ R U;rw[h5]at ho;cases ho;(let⟨h6,h7⟩:=I);obtain⟨rfl,h8⟩:=ZrP h6;have h8:=eq_of_heq h8;subst h8;refine⟨?_,λa J _=>⟨_,_,R,C,rfl,by rw[U,J]⟩⟩;simp only[RM]at h4|-;(cases o with|none=>exact h4|some a=>grind);cases I;have h5:=Zkk φ σ _ R;rw[h5]at ho;cases ho;exact⟨by simp[RM];exact I,λa J=>by cases J⟩;split at I;rename_i cs m0 C;(let⟨o',U,h4⟩:=ph C);have h5:=Zgn φ σ _ _ _ R U;rw[h5]at ho;cases ho;refine⟨?_,λa J _=>⟨_,_,R,C,rfl,by rw[U,J]⟩⟩;simp only[RM]at h4|-;(let⟨a,ab,m1,g0,g1,g2,g3⟩:=h4);exact⟨a,ab,m1,g0,g1,ZhO hh.len I.1 g2,λh=>g3 (I.2 h)⟩;cases I;exact⟨trivial,λa _ hl=>by cases hl⟩;cases I
 refine⟨by rw[Zo0,hlen],λj m o hm ho=>(at_ hm ho).1, ?_⟩;intro j j' m m' a ad hm ae hl af ho ag;let⟨i,m0,R,I,U,h4⟩:=(at_ hm ho).2 a rfl hl
 let⟨i',ak,ah,aa,ai,aj⟩:=(at_ ae ag).2 a rfl af
 by_cases hi:i=i';subst hi;exact ZnH J ad R ah;rw[ZaA]at I aa;exact hh.inj _ _ _ _ _ hi I aa U ai h4 aj
def Ztw tm tm' hp hp': ∀ (j:Nat) (l:List SM),(ZKa tm tm' hp hp' j l).length=l.length
 |_,[]=>rfl
 |j,_::r=>by simp[ZKa,Xao,Ztw tm tm' hp hp' (j+1) r]
def Zpu: ∀ {F:Nat} {σ:List Im} {j:Nat},ZqI F σ=true->j<F->nth σ j=some (.is j)
 |F+1,σ,j,h,C=>by simp only[ZqI]at h;split at h;rename_i i hi;simp only[Xas]at h;by_cases e:j=F;simp_all;exact Zpu h.2 oM;cases h
def Zbx {tm' hp' σ} (R:ZKa tm tm' hp hp' 0 hp'=σ) (I:(ZhH σ&&ZqI F σ)=true) (h1:ZzR σ tm tm') (h2:ZAf σ hp σ hp'):Ent F tm hp tm' hp':=by
 refine⟨λφ st hF U=>⟨Zl8 φ σ, ?_, ?_, ?_⟩⟩;simp at I;intro j hj;have J:φ[j]? =some φ[j]:=Xac oM;rw[J];exact Zgn φ σ j j _ (Zpu I.2 hj) J;intro i V' aa;have: ∀l,ZzR σ tm l->ZbJ i l=some V'-> ∃V,ZbJ i tm=some V/\ZKr σ V V':=by intro l;induction l with|nil=>intro _ h;cases h|cons x r ih=>grind [ZzR,Zgq,Xay]
 let⟨V,hV,C⟩:=this tm' h1 aa
 let⟨q,J,h4⟩:=U.tm i V hV
 exact⟨q,J,ZGK U.hp.len C h4⟩;simp at I;exact U.hp.view (by rw[<-R,Ztw]) I.1 h2
def Zaj:Ent F tm hp tm hp:=⟨λφ _ _ j=>⟨φ,Fr.refl F φ,j⟩⟩
def ZsZ {σ:Type} (F:Nat) (I:σ->TM) (J:σ->List SM) (Inv:σ->Prop) (j:σ->Nat) (a:σ) (k:Ex->TM->List SM->Prop):Ex->TM->List SM->Prop
 | .normal,tm,hp=> ∃C,Inv C/\j C<j a/\Ent F tm hp (I C) (J C)
 |e,tm,hp=>k e tm hp
def LoopOK.mono {c:Cx} {b:Code} {k k':Ex->TM->List SM->Prop} (hl:LoopOK P h F c b tm hp k) (J: ∀e tm hp,k e tm hp->k' e tm hp):LoopOK P h F c b tm hp k':=
 ⟨λφ st j C=>by(let⟨e,I,φ',tm',hp',f1,f2,f3,f4⟩:=hl.out φ st j C);grind⟩
def LoopOK.ent {c:Cx} {b:Code} {k:Ex->TM->List SM->Prop} {tm':TM} {hp':List SM} (hl:LoopOK P h F c b tm' hp' k) (he:Ent F tm hp tm' hp'):LoopOK P h F c b tm hp k:=
 ⟨λφ st I R=>by(let⟨j,J,U⟩:=he.out φ st I R);(let⟨e,C,φ',tm',hp',f1,f2,f3,f4⟩:=hl.out j st (J.len I) U);exact⟨e,C,φ',tm',hp',f1,J.trans f2,f3,f4⟩⟩
def LoopOK.through {c:Cx} {b:Code} {k k':Ex->TM->List SM->Prop} (hl:LoopOK P h F c b tm hp k) (U: ∀e tm hp,k e tm hp-> ∃tm' hp',Ent F tm hp tm' hp'/\k' e tm' hp'):LoopOK P h F c b tm hp k':=
 ⟨λφ st R hs=>by(let⟨e,j,φ',tm',hp',f1,f2,f3,f4⟩:=hl.out φ st R hs);(let⟨C,I,g1,g2⟩:=U _ _ _ f4);(let⟨J,g3,g4⟩:=g1.out φ' j (f2.len R) f3);exact⟨e,j,J,C,I,f1,f2.trans g3,g4,g2⟩⟩
def PureOK.mono {f:FuncId} {Vs:List SV} {Q j:SV->Prop} (hp:PureOK P h f Vs Q) (C: ∀V,Q V->j V):PureOK P h f Vs j:=
 ⟨λI J=>by let⟨q,V,R,U,h3⟩:=hp.out I J;exact⟨q,V,R,U,C V h3⟩⟩
def AsV (V V':SV):Prop:= ∀φ q,RV φ V q->RV φ V' q
def PureOK.as {f:FuncId} {Vs:List SV} {Q j:SV->Prop} (hp:PureOK P h f Vs Q) (C: ∀V,Q V-> ∃V',AsV V V'/\j V'):PureOK P h f Vs j:=
 ⟨λI J=>by(let⟨q,V,R,U,h3⟩:=hp.out I J);(let⟨V',h4,h5⟩:=C V h3);exact⟨q,V',R,h4 _ _ U,h5⟩⟩
def AsV.refl (V:SV):AsV V V:=λ_ _ h=>h
def AsV.nil (e:CT):AsV .nils (.v (.l e) ([]:List e.D)):=λφ q h=>by subst h;exact .inl ⟨rfl,rfl⟩
def AsV.tup2 {a b j C:SV} (I:AsV a j) (J:AsV b C):AsV (.tup [a,b]) (.tup [j,C]):=λφ q h=>by obtain⟨_,rfl,_,_,rfl,R,_,_,rfl,U,rfl⟩:=h;exact⟨_,rfl,_,_,rfl,I _ _ R,_,_,rfl,J _ _ U,rfl⟩
def ImpOK.mono {f Vs Q I} (hp:ImpOK P h f Vs Q) (J: ∀V hn j,Q V hn j->I V hn j):ImpOK P h f Vs I:=
 ⟨λR U base=>by let⟨v,rows,j,φ,V,hp',C,h1,h2,h3,h4,h5⟩:=hp.out R U base;exact⟨v,rows,j,φ,V,hp',C,h1,h2,h3,h4,J _ _ _ h5⟩⟩
def OpenOK.mono {f Vs Q j} (ho:OpenOK P h f Vs hp Q) (C: ∀V hp,Q V hp->j V hp):OpenOK P h f Vs hp j:=
 ⟨λφ H I J R=>by let⟨v,H',φ',V,hp',g1,g2,g3,g4,g5⟩:=ho.out φ H I J R;exact⟨v,H',φ',V,hp',g1,g2,g3,g4,C _ _ g5⟩⟩
def Zoz (hT:TysOK P T) {st} (C:SRep φ tm hp st): ∀ {rs:List ResultVar} {k:List SV->Prop},ZHH T tm hp rs k-> ∃vs l,Za3 (Zj2 P st.tm st.hp) rs=some vs/\RL φ l vs/\k l
 | [],k,j=>⟨[],[],rfl,by simp only[RL],j⟩
 | .tmp t::r,k,j=>by simp only[ZHH]at j;split at j;rename_i V I;(let⟨q,J,R⟩:=C.tm _ _ I);(let⟨vs,l,U,h4,h5⟩:=Zoz hT C j);exact⟨q::vs,V::l,by rw[Zbn,U];simp only[Zj2,J,Xad],by simp only[RL];exact⟨_,_,rfl,R,h4⟩,h5⟩;cases j
 | .cell a t::r,k,j=>by simp only[ZHH]at j;split at j;rename_i V I;(let⟨q,J,R⟩:=C.tm _ _ I);(let⟨q',V',h6,h7,h8⟩:=ZtW hT C.hp j R);(let⟨vs,l,U,h4,h5⟩:=Zoz hT C h8);exact⟨q'::vs,V'::l,by rw[Zbn,U];simp only[Zj2,J,h6,Xad],by simp only[RL];exact⟨_,_,rfl,h7,h4⟩,h5⟩;cases j
def Zzb {l vs} (j:RL φ l vs):RV φ (ZLW l) (ZbW vs):=by match l,vs,j with| [],vs,j=>simp[RL]at j;subst j;simp only[ZbW];exact⟨_,rfl,rfl⟩| [V],vs,j=>obtain⟨q,rfl,I⟩:=RL1 j;exact I|V::W::r,vs,j=>have C:=j;obtain⟨q,J,rfl,_,R,U,rfl,_⟩:=C;show RV φ (.tup _) _;exact⟨_,rfl,j⟩
def ZoY (hT:TysOK P T) {st} (U:SRep φ tm hp st) {rs k e} (C:ZjR T rs k e tm hp): ∃v V,ZKt P rs (e,st)=some (v,st.hp)/\RV φ V v/\k V hp:=by cases e with|exit j=>cases C|normal=>(let⟨vs,l,I,J,R⟩:=Zoz hT U C);exact⟨_,_,by simp[ZKt,I],Zzb J,R⟩|ret=>(let⟨vs,l,I,J,R⟩:=Zoz hT U C);exact⟨_,_,by simp[ZKt,I],Zzb J,R⟩
def Zft {C}: ∀ {Vs:List SV} {n:Nat},RL φ Vs C-> ∀i V,ZbJ i (ZcQ n Vs)=some V-> ∃q,Am.get (enterT n C) i=some q/\RV φ V q:=by
 intro Vs;induction Vs generalizing C with
 |nil=>intro n _ i V h;cases h
 |cons W r J=>
  intro n R i V j;obtain⟨q,U,rfl,h2,h3⟩:=R;simp[ZcQ]at j;rw[Zgq]at j;show ∃q',(bif Nat.beq i n then some q else Am.get (enterT (n+1) U) i)=some q'/\_
  cases I:Nat.beq i n with|true=>rw[I]at j;cases j;exact⟨q,rfl,h2⟩|false=>rw[I]at j;exact J h3 i V j
def ZIj (hT:TysOK P T) {f fn code Vs k} (j:h.ok f=true) (hf:P.funcs[f]? =some fn) (U:fn.body=some code) (hn:Vs.length<=fn.ntmps) {H}
 (hw:wp P h T F ⟨f,H.length,fn.ntmps⟩ code (ZcQ 0 Vs) hp (ZjR T fn.results.toList k)) {C} (hF:F<=φ.length) (hh:RH φ hp (λa=>H[a]?)) (J:RL φ Vs C):
 ∃v H' φ' V hp',(lim P h).rn f C H=some (v,H')/\Fr F φ φ'/\RH φ' hp' (λa=>H'[a]?)/\RV φ' V v/\k V hp':=by
 let⟨e,I,φ',tm',hp',h1,h2,R,h4⟩:=ZqN hT _ code _ _ _ φ ⟨enterT 0 C,H⟩ hw hF ⟨Zft J,hh⟩
 let⟨v,V,h5,h6,h7⟩:=ZoY hT R h4
 refine⟨v,I.hp,φ',V,hp', ?_,h2,R.hp,h6,h7⟩;refine ZuP j hf U (by rw[<-J.len];exact hn) ?_;grind
def RH.empty:RH [] [] (λa=>([]:List Mem)[a]?):=⟨rfl,λ_ _ _ h=>by simp at h,λ_ _ _ _ _ _ h=>by simp at h⟩
def Zlx (hT:TysOK P T) {f fn code Vs Q} (j:h.ok f=true) (hp:h.prim f=none) (hf:P.funcs[f]? =some fn) (C:fn.body=some code) (hn:Vs.length<=fn.ntmps)
 (hw:wp P h T 0 ⟨f,0,fn.ntmps⟩ code (ZcQ 0 Vs) [] (ZjR T fn.results.toList λV hp=>ZbS hp 40 V Q)):PureOK P h f Vs Q:=by
 refine⟨λqs I=> ?_⟩;let⟨v,H',φ',V,hp',J,_,R,U,h5⟩:=ZIj hT j hf C hn hw (Xak _) RH.empty I
 let⟨q',V',g1,g2,g3,_⟩:=ZkY R 40 V v Q h5 U
 refine⟨q',V', ?_,g2,g3⟩;simp[ZbZ,hp,J];exact g1
def ZfP (hT:TysOK P T) {f fn code Vs Q} (j:h.ok f=true) (hf:P.funcs[f]? =some fn) (I:fn.body=some code) (hn:Vs.length<=fn.ntmps)
 (hw: ∀base,wp P h T hp.length ⟨f,base,fn.ntmps⟩ code (ZcQ 0 Vs) hp (ZjR T fn.results.toList Q)):OpenOK P h f Vs hp Q:=by
 refine⟨λφ H qs C J=> ?_⟩;let⟨v,H',φ',V,hp',R,U,h3,h4,h5⟩:=ZIj hT j hf I hn (hw H.length) (by rw[C.len];exact Xae _) C J
 exact⟨v,H',φ',V,hp',R,U.le (by rw[C.len];exact Xae _),h3,h4,h5⟩
end
end Go.Tx

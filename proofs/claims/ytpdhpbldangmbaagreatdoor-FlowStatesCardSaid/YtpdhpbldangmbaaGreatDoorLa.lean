/- Determinants by the first row, rows and columns, the rule of Cramer; regular parts, reduced echelon forms, systems: plain Lean. -/
import Derived.Test.YtpdhpbldangmbaaGreatDoorU4
set_option linter.all false
set_option maxHeartbeats 4000000
set_option maxRecDepth 100000
open Go.IntKind(i64 u32)
namespace La
def S:Nat->(Nat->Rat)->Rat
 |0,_=>0
 |n+1,f=>S n f+f n
theorem ZaE: ∀ {n:Nat} {f g:Nat->Rat},(∀k,k<n->f k=g k)->S n f=S n g
 |0,_,_,_=>rfl
 |n+1,f,g,h=>by rw[S,S,ZaE λk j=>h k (by omega),h n (by omega)]
theorem ZdQ {n:Nat} {f:Nat->Rat} (h: ∀k,k<n->f k=0):S n f=0:=by induction n with|zero=>rfl|succ n j=>rw[S,j λk C=>h k (by omega),h n (by omega)];grind
def Zls (n:Nat) (f g:Nat->Rat):S n (λk=>f k+g k)=S n f+S n g:=by induction n with|zero=>rw[S,S,S];grind|succ n j=>rw[S,S,S,j];grind
theorem Zds (n:Nat) (c:Rat) (f:Nat->Rat):S n (λk=>c*f k)=c*S n f:=by induction n with|zero=>rw[S,S];grind|succ n j=>rw[S,S,j];grind
def ZrY (n:Nat) (f:Nat->Rat):S (n+1) f=f 0+S n (λk=>f (k+1)):=by induction n with|zero=>rw[S,S,S];grind|succ n j=>rw[S,j,S];grind
def Zrc (m n:Nat) (f:Nat->Nat->Rat):S m (λi=>S n (λj=>f i j))=S n (λj=>S m (λi=>f i j)):=by induction m with|zero=>exact(ZdQ λk _=>rfl).symm|succ m C=>rw[S,C,<-Zls];rfl
theorem Zl4 {n j:Nat} {f:Nat->Rat} (C:j<n) (h: ∀k,k<n->k≠j->f k=0):S n f=f j:=by induction n with|zero=>omega|succ n I=>rw[S];grind [ZdQ]
def ZLo {n j:Nat} {f:Nat->Rat} (C:j+1<n) (h: ∀k,k<n->k≠j->k≠j+1->f k=0):S n f=f j+f (j+1):=by induction n with|zero=>omega|succ n I=>rw[S];grind [Zl4]
def sg:Nat->Rat
 |0=>1
 |n+1=> -sg n
def sk (k j:Nat):Nat:=if j<k then j else j+1
abbrev Mx:=Nat->Nat->Rat
def mnr (M:Mx) (k:Nat):Mx:=λi j=>M (i+1) (sk k j)
def det:Nat->Mx->Rat
 |0,_=>1
 |n+1,M=>S (n+1) λk=>sg k*M 0 k*det n (mnr M k)
def Zxg {k j n:Nat} (h:j<n):sk k j<n+1:=by unfold sk;split<;>omega
theorem ZbI: ∀ {n:Nat} {M N:Mx},(∀i j,i<n->j<n->M i j=N i j)->det n M=det n N
 |0,_,_,_=>rfl
 |n+1,M,N,h=>by rw[det,det];refine ZaE λk C=> ?_;rw[h 0 k (by omega) C,ZbI (M:=mnr M k) (N:=mnr N k) λi j hi I=>h (i+1) (sk k j) (by omega) (Zxg I)]
def mnc (M:Mx) (k:Nat):Mx:=λi j=>M (sk k i) (j+1)
def ZsT: ∀ (n:Nat) (M:Mx),det (n+1) M=S (n+1) λk=>sg k*M k 0*det n (mnc M k)
 |0,M=>rfl
 |n+1,M=>by
  rw[det,ZrY,ZrY (n+1) λk=>sg k*M k 0*det (n+1) (mnc M k)];congr 1;have j: ∀l,l<n+1->sg (l+1)*M 0 (l+1)*det (n+1) (mnr M (l+1))=S (n+1) λi=>sg (l+1)*M 0 (l+1)*(sg i*M (i+1) 0*det n (mnc (mnr M (l+1)) i)):=by intro l _;rw[ZsT n,Zds];rfl
  have C: ∀i,i<n+1->sg (i+1)*M (i+1) 0*det (n+1) (mnc M (i+1))=S (n+1) λl=>sg (i+1)*M (i+1) 0*(sg l*M 0 (l+1)*det n (mnr (mnc M (i+1)) l)):=by intro i _;rw[det,Zds];rfl
  rw[ZaE j,ZaE C,Zrc];refine ZaE λi _=>ZaE λl _=> ?_;have I:mnc (mnr M (l+1)) i=mnr (mnc M (i+1)) l:=(by funext a b;simp[mnc,mnr,sk];grind);rw[I,sg,sg];grind
def tr (M:Mx):Mx:=λi j=>M j i
def Zyb: ∀ (n:Nat) (M:Mx),det n (tr M)=det n M
 |0,_=>rfl
 |n+1,M=>by rw[ZsT n M,det];refine ZaE λk _=> ?_;rw[<-Zyb n (mnc M k)];rfl
def ZbN (M:Mx) (i:Nat) (v:Nat->Rat):Mx:=λr c=>if r=i then v c else M r c
def Zul (M:Mx) (v:Nat->Rat) (k:Nat):mnr (ZbN M 0 v) k=mnr M k:=by grind [mnr,ZbN]
def ZBN (M:Mx) (i:Nat) (v:Nat->Rat) (k:Nat):mnr (ZbN M (i+1) v) k=ZbN (mnr M k) i (λc=>v (sk k c)):=by grind [mnr,ZbN]
def Zfy: ∀ {n i:Nat} (M:Mx) (u v:Nat->Rat) (c:Rat),i<n->det n (ZbN M i (λj=>u j+c*v j))=det n (ZbN M i u)+c*det n (ZbN M i v)
 |0,_,_,_,_,_,h=>by omega
 |n+1,0,M,u,v,c,_=>by rw[det,det,det,<-Zds,<-Zls];refine ZaE λk _=> ?_;simp only[Zul];simp only[ZbN,if_pos];grind
 |n+1,i+1,M,u,v,c,h=>by rw[det,det,det,<-Zds,<-Zls];refine ZaE λk _=> ?_;simp only[ZBN];rw[Zfy (mnr M k) (λj=>u (sk k j)) (λj=>v (sk k j)) c (by omega)];simp only[ZbN,if_neg (show ¬ (0=i+1)by omega)];grind
def ZsU: ∀ {n j:Nat} {M:Mx},j+1<n->(∀i,i<n->M i j=M i (j+1))->det n M=0
 |0,_,_,h,_=>by omega
 |n+1,j,M,h,he=>by rw[det,ZLo h];have e:det n (mnr M j)=det n (mnr M (j+1)):=(by refine ZbI λa b C I=> ?_;simp[mnr,sk];grind);rw[e,he 0 (by omega),sg];grind;intro k J R U;have:det n (mnr M k)=0:=(by by_cases h3:k<j;refine ZsU (j:=j-1) (by omega) λi hi=> ?_;simp[mnr,sk];grind;refine ZsU (j:=j) (by omega) λi hi=> ?_;simp[mnr,sk];grind);grind
theorem Zy7 {n i:Nat} {M:Mx} (h:i+1<n) (he: ∀j,j<n->M i j=M (i+1) j):det n M=0:=by rw[<-Zyb];exact ZsU h he
def ZkZ (M:Mx) (i:Nat):ZbN M i (M i)=M:=by grind [ZbN]
def swR (M:Mx) (i k:Nat):Mx:=λr c=>if r=i then M k c else if r=k then M i c else M r c
theorem ZlB {M:Mx} {i k:Nat} {u v:Nat->Rat} (h:i≠k):ZbN (ZbN M i u) k v=ZbN (ZbN M k v) i u:=by grind [ZbN]
theorem ZMX {n i k:Nat} (hi:i<n) (I:k<n) (C:i≠k) (M:Mx) (u v:Nat->Rat)
 (J: ∀w,det n (ZbN (ZbN M i w) k w)=0):det n (ZbN (ZbN M i u) k v)= -det n (ZbN (ZbN M i v) k u):=by have R:=J (λj=>u j+1*v j);rw[Zfy _ _ _ _ I,ZlB C,Zfy _ _ _ _ hi,ZlB C,Zfy _ _ _ _ hi]at R;grind [ZlB]
theorem ZJh (M:Mx) {i k:Nat} (h:i≠k):swR M i k=ZbN (ZbN M i (M k)) k (M i):=by grind [swR,ZbN]
theorem ZCm (M:Mx) {i k:Nat} (_:i≠k):ZbN (ZbN M i (M i)) k (M k)=M:=by simp_all [ZkZ]
def Zse: ∀ (d:Nat) {n i k:Nat} {M:Mx},k=i+d+1->k<n->(∀j,j<n->M i j=M k j)->det n M=0
 |0,n,i,k,M,e,C,he=>by subst e;exact Zy7 C he
 |d+1,n,i,k,M,e,C,he=>by have I:det n M= -det n (swR M (k-1) k):=(by grind [ZMX,Zy7,ZbN,ZCm,ZJh]);rw[I,Zse d (i:=i) (k:=k-1) (by omega) (by omega)];grind;grind [swR]
theorem Zki {n i k:Nat} {M:Mx} (h:i≠k) (hi:i<n) (C:k<n) (he: ∀j,j<n->M i j=M k j):det n M=0:=by by_cases J:i<k;exact Zse (k-i-1) (by omega) C he;exact Zse (i-k-1) (by omega) hi λj I=>(he j I).symm
def Zqx {n i:Nat} (M:Mx) (c:Rat) (hi:i<n):det n (ZbN M i (λj=>c*M i j))=c*det n M:=by
 have:=Zfy M (λ_=>0) (M i) c hi;rw[ZkZ]at this;have C:det n (ZbN M i λ_=>0)=0:=by have:=Zfy M (λ_=>0) (λ_=>0) 1 hi;grind
 grind
def ZC6 {n i:Nat} {M:Mx} (hi:i<n) (h: ∀j,j<n->M i j=0):det n M=0:=by have:=Zqx M 0 hi;grind [ZbI,ZbN]
def ZFr {n:Nat} {M:Mx} (h: ∀i,0<i->i<n+1->M i 0=0):det (n+1) M=M 0 0*det n (mnr M 0):=by
 rw[ZsT,Zl4 (j:=0) (by omega)];rw[sg];have:mnc M 0=mnr M 0:=by funext a b;simp only[mnc,mnr,sk];rw[if_neg (by omega),if_neg (by omega)]
 rw[this];grind;grind
def ZAz {n i:Nat} (M:Mx) (m:Nat) (x:Nat->Rat) (v:Nat->Nat->Rat) (hi:i<n):det n (ZbN M i (λj=>S m λt=>x t*v t j))=S m λt=>x t*det n (ZbN M i (v t)):=by induction m with|zero=>refine ZC6 hi λj _=> ?_;simp only[ZbN];rw[if_pos trivial];rfl|succ m C=>rw[S,<-C,<-Zfy _ _ _ _ hi];rfl
def ZJJ {n i:Nat} {M:Mx} {x b:Nat->Rat} (hi:i<n) (h: ∀j,j<n->(S n λt=>x t*M t j)=b j):det n (ZbN M i b)=x i*det n M:=by rw[ZbI,ZAz M n x M hi,Zl4 hi];rw[ZkZ];grind [Zki,ZbN];grind [ZbN]
def ZcN (n k:Nat) (g:Nat->Nat) (M:Mx):Prop:= ∃f:Nat->Nat,(∀i,i<k->f i<n)/\det k (λi j=>M (f i) (g j))≠0
def ZzS {n k:Nat} {g:Nat->Nat} {M N:Mx} (h:ZcN n k g M) (he: ∀i j,i<n->j<k->M i (g j)=N i (g j)):ZcN n k g N:=by
 let⟨f,C,I⟩:=h
 refine⟨f,C, ?_⟩;grind [ZbI]
def ZH8 {n k i r:Nat} {g:Nat->Nat} {M:Mx} (hi:i<n) (j:r<n) (h:ZcN n k g M):ZcN n k g (swR M i r):=by
 let⟨f,C,I⟩:=h
 refine⟨λt=>if f t=i then r else if f t=r then i else f t,λt J=> ?_, ?_⟩;grind;grind [swR]
def ZEv {n k i r:Nat} {g:Nat->Nat} {M:Mx} {c:Rat} (hr:r<n) (h:ZcN n k g (ZbN M i (λj=>M i j+c*M r j))):ZcN n k g M:=by
 let⟨f,J,R⟩:=h
 by_cases hex: ∃t,t<k/\f t=i
 let⟨t,ht,hf⟩:=hex
 have hu: ∀s,s<k->f s=i->s=t:=λs hs aa=>by grind [Zki]
 by_cases U:det k (λa j=>M (f a) (g j))=0;refine⟨λs=>if s=t then r else f s,λs hs=> ?_, ?_⟩;grind;intro h3;apply R;have e:det k (λa j=>ZbN M i (λj=>M i j+c*M r j) (f a) (g j))=det k (ZbN (λa j=>M (f a) (g j)) t (λj=>M i (g j)+c*M r (g j))):=by grind [ZbI,ZbN]
 rw[e,Zfy _ _ _ _ ht];have e1:det k (ZbN (λa j=>M (f a) (g j)) t (λj=>M i (g j)))=0:=by rw[<-U];refine ZbI λa j C _=> ?_;simp only[ZbN];split;rename_i I;subst I;rw[hf];rfl
 have e2:det k (ZbN (λa j=>M (f a) (g j)) t (λj=>M r (g j)))=0:=by rw[<-h3];refine ZbI λa j C _=> ?_;simp[ZbN];split<;>rfl
 rw[e1,e2];grind;exact⟨f,J,U⟩;refine⟨f,J, ?_⟩;rwa[ZbI λa j C _=>by simp only[ZbN];rw[if_neg λe=>hex ⟨a,C,e⟩]]at R
def ZuG {n k i:Nat} {g:Nat->Nat} {M:Mx} {c:Rat} (h:ZcN n k g (ZbN M i (λj=>c*M i j))):ZcN n k g M:=by
 let⟨f,C,I⟩:=h
 by_cases hex: ∃t,t<k/\f t=i
 let⟨t,J,hf⟩:=hex
 have hu: ∀s,s<k->f s=i->s=t:=λs U R=>by grind [Zki]
 refine⟨f,C,λh0=>I ?_⟩;have:=Zqx (λa j=>M (f a) (g j)) c J;grind [ZbI,ZbN];refine⟨f,C, ?_⟩;grind [ZbI,ZbN]
structure REq (n W:Nat) (M N:Mx):Prop where
 sol: ∀y:Nat->Rat,(∀i,i<n->S W (λj=>M i j*y j)=0)<->(∀i,i<n->S W (λj=>N i j*y j)=0)
 min: ∀k g,(∀j,j<k->g j<W)->(ZcN n k g M<->ZcN n k g N)
def REq.of_eq {n W:Nat} {M N:Mx} (h: ∀i j,i<n->j<W->M i j=N i j):REq n W M N:=
 ⟨λy=>⟨λC i hi=>by rw[<-C i hi];exact ZaE λj I=>by rw[h i j hi I],λC i hi=>by rw[<-C i hi];exact ZaE λj I=>by rw[h i j hi I]⟩,
  λk g J=>⟨λC=>ZzS C λi j hi I=>h i _ hi (J j I),λC=>ZzS C λi j hi I=>(h i _ hi (J j I)).symm⟩⟩
def REq.refl (n W:Nat) (M:Mx):REq n W M M:= .of_eq λ_ _ _ _=>rfl
def REq.trans {n W:Nat} {M N K:Mx} (j:REq n W M N) (C:REq n W N K):REq n W M K:=
 ⟨λy=>(j.sol y).trans (C.sol y),λk g I=>(j.min k g I).trans (C.min k g I)⟩
def ZyD {M:Mx} {i r:Nat}:swR (swR M i r) i r=M:=by grind [swR]
def ZEa {n W i r:Nat} {M:Mx} {y:Nat->Rat} (hi:i<n) (C:r<n) (h: ∀i,i<n->S W (λj=>M i j*y j)=0): ∀t,t<n->S W (λj=>swR M i r t j*y j)=0:=by grind [swR]
def REq.sw {n W i r:Nat} {M:Mx} (hi:i<n) (j:r<n):REq n W M (swR M i r):=
 ⟨λy=>⟨ZEa hi j,λh=>by have:=ZEa hi j h;rwa[ZyD]at this⟩,
  λk g _=>⟨ZH8 hi j,λh=>by have:=ZH8 hi j h;rwa[ZyD]at this⟩⟩
theorem Zrh {M:Mx} {i:Nat} {u v:Nat->Rat}:ZbN (ZbN M i u) i v=ZbN M i v:=by grind [ZbN]
def ZAn {n W i r:Nat} {M:Mx} {y:Nat->Rat} {c:Rat} (hi:i<n) (C:r<n) (h: ∀i,i<n->S W (λj=>M i j*y j)=0): ∀t,t<n->S W (λj=>ZbN M i (λj=>M i j+c*M r j) t j*y j)=0:=by intro t J;simp[ZbN];by_cases I:t=i;simp[if_pos I];rw[ZaE (g:=λj=>M i j*y j+c*(M r j*y j)) λk _=>by grind,Zls,Zds,h i hi,h r C];grind;grind
def ZtA {M:Mx} {i r:Nat} {c:Rat} (C:i≠r):M=ZbN (ZbN M i (λj=>M i j+c*M r j)) i (λj=>ZbN M i (λj=>M i j+c*M r j) i j+ -c*ZbN M i (λj=>M i j+c*M r j) r j):=by grind [Zrh,ZbN]
def REq.add {n W i r:Nat} {M:Mx} (c:Rat) (hi:i<n) (I:r<n) (C:i≠r):REq n W M (ZbN M i (λj=>M i j+c*M r j)):=
 ⟨λy=>⟨ZAn hi I,λh=>by have:=ZAn (c:= -c) hi I h;rwa[<-ZtA C]at this⟩,
  λk g _=>⟨λh=>ZEv I (by rwa[<-ZtA C]),ZEv I⟩⟩
def ZmW {M:Mx} {i:Nat} {c:Rat} (C:c≠0):M=ZbN (ZbN M i (λj=>c*M i j)) i (λj=>c⁻¹ *ZbN M i (λj=>c*M i j) i j):=by grind [Zrh,ZbN]
def Zrp {n W i:Nat} {M:Mx} {y:Nat->Rat} {c:Rat} (h: ∀i,i<n->S W (λj=>M i j*y j)=0) (hi:i<n): ∀t,t<n->S W (λj=>ZbN M i (λj=>c*M i j) t j*y j)=0:=by intro t I;simp[ZbN];by_cases C:t=i;simp[if_pos C];rw[ZaE (g:=λj=>c*(M i j*y j)) λk _=>by grind,Zds,h i hi];grind;grind
def REq.scale {n W i:Nat} {M:Mx} {c:Rat} (hi:i<n) (C:c≠0):REq n W M (ZbN M i (λj=>c*M i j)):=
 ⟨λy=>⟨λh=>Zrp h hi,λh=>by have:=Zrp (c:=c⁻¹) h hi;rwa[<-ZmW C]at this⟩,
  λk g _=>⟨λh=>ZuG (by rwa[<-ZmW C]),ZuG⟩⟩
structure Ech (n c m:Nat) (p:Nat->Nat) (M:Mx):Prop where
 mn:m<=n
 inc: ∀s t,s<t->t<m->p s<p t
 lt: ∀t,t<m->p t<c
 one: ∀t,t<m->M t (p t)=1
 col: ∀i t,i<n->t<m->i≠t->M i (p t)=0
 low: ∀i j,m<=i->i<n->j<c->M i j=0
def ZyP: ∀ {n:Nat} {M:Mx},(∀i j,i<n->j<n->M i j=if i=j then 1 else 0)->det n M=1
 |0,_,_=>rfl
 |n+1,M,h=>by rw[ZFr λi C hi=>by rw[h i 0 hi (by omega),if_neg (by omega)],h 0 0 (by omega) (by omega),if_pos rfl,ZyP];grind;intro i j hi I;simp only[mnr,sk];rw[if_neg (by omega),h (i+1) (j+1) (by omega) (by omega)];by_cases e:i=j;rw[if_pos e,if_pos (by omega)];rw[if_neg e,if_neg (by omega)]
def Ech.minor {n c m:Nat} {p:Nat->Nat} {M:Mx} (h:Ech n c m p M):ZcN n m p M:=by refine⟨id,λi hi=>XaW hi h.mn, ?_⟩;rw[ZyP];decide;intro i j hi C;show M i (p j)=_;by_cases e:i=j;subst e;rw[if_pos rfl,h.one i hi];rw[if_neg e,h.col i j (by have:=h.mn;omega) C e]
def ZEC: ∀ (k:Nat) {m:Nat} {f:Nat->Nat},m<k->(∀i,i<k->f i<m)-> ∃a b,a<k/\b<k/\a≠b/\f a=f b
 |0,_,_,h,_=>by omega
 |k+1,0,f,_,hf=>by have:=hf 0 (by omega);omega
 |k+1,m+1,f,h,hf=>by
  by_cases hex: ∃a,a<k/\f a=f k
  (let⟨a,C,e⟩:=hex);exact⟨a,k,by omega,by omega,by omega,e⟩;(let⟨a,b,C,I,j,e⟩:=ZEC k (m:=m) (f:=λi=>if f i<f k then f i else f i-1) (by omega) (λi hi=>by grind));refine⟨a,b,by omega,by omega,j, ?_⟩;grind
def Sol (n w:Nat) (M:Mx) (x:Nat->Rat):Prop:= ∀i,i<n->S w (λj=>M i j*x j)=M i w
def ZwS (n w:Nat) (M:Mx) (x:Nat->Rat):Prop:=Sol n w M x/\ ∀y,Sol n w M y-> ∀j,j<w->y j=x j
def Ech.none {n w m i:Nat} {p:Nat->Nat} {M:Mx} (h:Ech n w m p M) (hm:m<=i) (hi:i<n) (j:M i w≠0) (x:Nat->Rat): ¬Sol n w M x:=λC=>by apply j;rw[<-C i hi];exact ZdQ λk I=>by rw[h.low i k hm hi I];grind
def Ech.ge {n w m:Nat} {p:Nat->Nat} {M:Mx} (h:Ech n w m p M): ∀t,t<m->t<=p t:=by intro t;induction t with|zero=>intro _;omega|succ t j=>intro C;have:=j (by omega);have:=h.inc t (t+1) (by omega) C;omega
def Ech.le {n w m:Nat} {p:Nat->Nat} {M:Mx} (h:Ech n w m p M):m<=w:=by rcases Nat.eq_zero_or_pos m with h0|h0;omega;have:=h.ge (m-1) (by omega);have:=h.lt (m-1) (by omega);omega
def Ech.full {n w p M} (h:Ech n w w p M): ∀t,t<w->p t=t:=by
 intro t j;have J:=h.ge t j;have C: ∀d,t+d<w->p t+d<=p (t+d):=by intro d;induction d with|zero=>intro _;exact Xae _|succ d I=>intro hd;have:=I (by omega);have:=h.inc (t+d) (t+(d+1)) (by omega) hd;omega
 have R:=C (w-1-t) (by omega);have U:=h.lt (t+(w-1-t)) (by omega);omega
def Ech.many {n w m p M} (h:Ech n w m p M) (hm:m<w) x: ¬ZwS n w M x:=by
 rintro⟨hs,hu⟩;let⟨c,J,aa⟩: ∃c,c<w/\ ∀t,t<m->p t≠c:=by
  apply Decidable.byContradiction;intro hn;have hex: ∀c,c<w-> ∃t,t<m/\p t=c:=λc J=>by simp_all
  let⟨f,hf⟩: ∃f,∀c,c<w->f c<m/\p (f c)=c:=
   ⟨λc=>if h:c<w then Classical.choose (hex c h)else 0,λc J=>by simp[dif_pos J];exact Classical.choose_spec (hex c J)⟩
  (let⟨a,b,ha,hb,ae,e⟩:=ZEC w hm λc J=>(hf c J).1);grind
 let v:Nat->Rat:=λj=>if j=c then 1 else S m (λt=>if p t=j then-M t c else 0)
 have hv: ∀i,i<n->S w (λj=>M i j*v j)=0:=by
  intro i hi;by_cases C:i<m;have ab:=aa i C;have ad:v (p i)= -M i c:=(by show(if p i=c then(1:Rat)else S m (λt=>if p t=p i then-M t c else 0))=_;rw[if_neg ab,Zl4 C];rw[if_pos rfl];intro k hk I;rw[if_neg];intro e;rcases Nat.lt_or_gt_of_ne I with h1|h1;have:=h.inc k i h1 C;omega;have:=h.inc i k h1 hk;omega);have R:S w (λj=>M i j*v j)=M i c*v c+M i (p i)*v (p i):=by
    have e1:S w (λj=>M i j*v j)=S w (λj=>(if j=c then M i c*v c else 0)+(if j=p i then M i (p i)*v (p i)else 0)):=by
     refine ZaE λj hj=> ?_;by_cases U:j=c;rw[if_pos U,if_neg (by omega),U];grind;rw[if_neg U];by_cases c2:j=p i;rw[if_pos c2,c2];grind;rw[if_neg c2];have:M i j*v j=0:=by
        by_cases c3: ∃t,t<m/\p t=j
        (let⟨t,ht,e⟩:=c3);rw[<-e,h.col i t hi ht λe2=>by subst e2;omega];grind;have:v j=0:=(by show(if j=c then(1:Rat)else S m (λt=>if p t=j then-M t c else 0))=0;rw[if_neg U];exact ZdQ λt ht=>if_neg λe=>c3 ⟨t,ht,e⟩);rw[this];grind
     rw[this];grind
    rw[e1,Zls,Zl4 J λk _ I=>if_neg I,Zl4 (h.lt i C) λk _ I=>if_neg I,if_pos rfl,if_pos rfl]
  rw[R,ad,h.one i C];show M i c*(if c=c then(1:Rat)else _)+_=0;rw[if_pos rfl];grind;exact ZdQ λk hk=>by rw[h.low i k (by omega) hi hk];grind
 have h2:=hu (λj=>x j+v j) (λi hi=>by rw[ZaE (g:=λj=>M i j*x j+M i j*v j) λk _=>by grind,Zls,hs i hi,hv i hi];grind) c J;have h3:v c=1:=if_pos rfl;simp[h3]at h2;grind
def ZB2 {n w a M} (J:a<n) (hz:M a w≠0) x:
 Sol n (w+1) M x<->((∀i,i<n->i≠a->S w (λj=>(M i j-M i w/M a w*M a j)*x j)=M i (w+1)-M i w/M a w*M a (w+1))/\x w=(M a (w+1)-S w (λj=>M a j*x j))/M a w):=by
 constructor;intro h;have C:=h a J;rw[S]at C;refine⟨λi hi _=> ?_, ?_⟩;have I:=h i hi;rw[S]at I;rw[ZaE (g:=λj=>M i j*x j+ -(M i w/M a w)*(M a j*x j)) λk _=>by grind,Zls,Zds];grind;grind;rintro⟨C,I⟩ i hi;have R:S w (λj=>M a j*x j)+M a w*x w=M a (w+1):=by grind
 rw[S];by_cases e:i=a;rw[e];exact R;have U:=C i hi e;rw[ZaE (g:=λj=>M i j*x j+ -(M i w/M a w)*(M a j*x j)) λk _=>by grind,Zls,Zds]at U;grind
def bd:Nat->Nat->Nat
 |0,_=>1
 |n+1,B=>(n+1)*(B*bd n B)
def ZCX {n} {f:Nat->Rat} {B} (h: ∀k,k<n-> ∃z:Int,f k=z/\z.natAbs<=B): ∃z:Int,S n f=z/\z.natAbs<=n*B:=by induction n with|zero=>exact⟨0,rfl,by simp⟩|succ n j=>(let⟨a,C,J⟩:=j λk R=>h k (by omega));(let⟨b,I,U⟩:=h n (by omega));refine⟨a+b,by rw[S,C,I,Rat.intCast_add], ?_⟩;grind
def ZrX {B}: ∀ {n:Nat} {M:Mx},(∀i j,i<n->j<n-> ∃z:Int,M i j=z/\z.natAbs<=B)-> ∃z:Int,det n M=z/\z.natAbs<=bd n B
 |0,M,_=>⟨1,rfl,Xae 1⟩
 |n+1,M,h=>by
  refine ZCX λk I=> ?_;(let⟨a,J,h2⟩:=h 0 k (by omega) I);(let⟨b,R,h4⟩:=ZrX (M:=mnr M k) λi j hi hj=>h (i+1) (sk k j) (by omega) (Zxg hj));have hs: ∃s:Int,sg k=s/\s.natAbs=1:=by clear I J h2 R h4;induction k with|zero=>exact⟨1,rfl,rfl⟩|succ k ih=>let⟨s,C,U⟩:=ih;exact⟨-s,by rw[sg,C,Rat.intCast_neg],by rw[Int.natAbs_neg,U]⟩
  (let⟨s,C,U⟩:=hs);refine⟨s*a*b,by rw[C,J,R,Rat.intCast_mul,Rat.intCast_mul], ?_⟩;simp_all [XbD,Nat.one_mul,Xa0]
section
variable (f t:Nat->Nat) (b:Nat->Rat)
def dlt (k i:Nat):Rat:=(if i=f k then 1 else 0)-(if i=t k then 1 else 0)
def lap (m:Nat):Mx:=λi j=>S m λk=>b k*(dlt f t k i*dlt f t k j)
end
variable {f t:Nat->Nat} {b:Nat->Rat} {n m:Nat}
def ZGk (n:Nat) (f g:Nat->Rat):S n (λk=>f k-g k)=S n f-S n g:=by induction n with|zero=>rw[S,S,S];grind|succ n j=>rw[S,S,S,j];grind
def Zlq {n j:Nat} (x:Nat->Rat) (C:j<n):S n (λi=>(if i=j then 1 else 0)*x i)=x j:=by grind [Zl4]
def ZFa {k:Nat} (hf:f k<n) (j:t k<n) (x:Nat->Rat):S n (λi=>dlt f t k i*x i)=x (f k)-x (t k):=by rw[<-Zlq x hf,<-Zlq x j,<-ZGk];grind [ZaE,dlt]
def ZFq (ho: ∀k,k<m->f k<n/\t k<n) (x:Nat->Rat) (i:Nat):S n (λj=>lap f t b m i j*x j)=S m λk=>b k*(x (f k)-x (t k))*dlt f t k i:=by
 have I:S n (λj=>lap f t b m i j*x j)=S n λj=>S m λk=>b k*dlt f t k i*(dlt f t k j*x j):=ZaE λj _=>by rw[lap,Rat.mul_comm,<-Zds];grind
 rw[I,Zrc];refine ZaE λk C=> ?_;rw[Zds,ZFa (ho k C).1 (ho k C).2];grind
def ZAj (ho: ∀k,k<m->f k<n/\t k<n) (u x:Nat->Rat):S n (λi=>u i*S n λj=>lap f t b m i j*x j)=S m λk=>b k*((u (f k)-u (t k))*(x (f k)-x (t k))):=by
 have I:S n (λi=>u i*S n λj=>lap f t b m i j*x j)=S n λi=>S m λk=>b k*(x (f k)-x (t k))*(dlt f t k i*u i):=ZaE λi _=>by rw[ZFq ho,<-Zds];grind
 rw[I,Zrc];refine ZaE λk C=> ?_;rw[Zds,ZFa (ho k C).1 (ho k C).2];grind
def ZtR: ∀ {n:Nat} {f:Nat->Rat},(∀k,k<n->0<=f k)->0<=S n f
 |0,_,_=>Rat.le_refl
 |n+1,f,h=>by rw[S];exact Rat.add_nonneg (ZtR λk j=>h k (by omega)) (h n (by omega))
theorem ZHK: ∀ {n:Nat} {f:Nat->Rat},(∀k,k<n->0<=f k)->S n f=0-> ∀k,k<n->f k=0
 |0,_,_,_,_,h=>absurd h (by omega)
 |n+1,f,h,C,k,j=>by rw[S]at C;have R:=ZtR (n:=n) λk j=>h k (by omega);have U:=h n (by omega);have I:S n f=0:=(by grind);have J:f n=0:=(by grind);rcases Xa8 k n with hl|hg;exact ZHK (λk j=>h k (by omega)) I k hl;have:k=n:=(by omega);rw[this];exact J
theorem Zz1 (x:Rat):0<=x*x:=by rcases Rat.nonneg_total x with h|h;exact Rat.mul_nonneg h h;have:=Rat.mul_nonneg h h;grind
theorem ZGa {x:Rat} (h:x*x=0):x=0:=(Rat.mul_eq_zero.1 h).elim id id
def ZuK (ho: ∀k,k<m->f k<n/\t k<n) (C: ∀k,k<m->0<b k) {x:Nat->Rat} (h: ∀i,i<n->x i=0\/(S n λj=>lap f t b m i j*x j)=0): ∀k,k<m->x (f k)=x (t k):=by have I:=ZAj (b:=b) ho x x;grind [ZdQ,ZHK,Rat.mul_nonneg,Rat.le_of_lt,Zz1,Rat.mul_eq_zero,ZGa]
def Zv7 (ho: ∀k,k<m->f k<n/\t k<n) {u:Nat->Rat} (hu: ∀k,k<m->u (f k)=u (t k)) (x:Nat->Rat):S n (λi=>u i*S n λj=>lap f t b m i j*x j)=0:=by rw[ZAj ho];grind [ZdQ]
def con (x:Nat) (f:Nat->Nat):Nat->Nat
 |0=>x
 |n+1=>f n
def cmb (m:Nat) (y:Nat->Rat) (ρ:Nat->Nat) (M:Mx):Nat->Rat:=λj=>S m λu=>y u*M (ρ u) j
def Cm (M:Mx) (ρ j:Nat->Nat):Mx:=λa b=>M (ρ a) (j b)
def ZGx {m r k:Nat} {M:Mx} {ρ C:Nat->Nat} {x:Nat->Rat} (h: ∀t,t<m->M r (C t)-cmb m x ρ M (C t)=0):det (m+1) (Cm M (con r ρ) (con k C))=(M r k-cmb m x ρ M k)*det m (Cm M ρ C):=by
 let⟨A,I⟩: ∃A,Cm M (con r ρ) (con k C)=A:=⟨_,rfl⟩
 have J: ∀j,S m (λu=>x u*A (u+1) j)=cmb m x ρ M (con k C j):=λj=>by rw[<-I];rfl
 have R:A=ZbN A 0 (λj=>(A 0 j-S m (λu=>x u*A (u+1) j))+1*S m (λu=>x u*A (u+1) j)):=by grind [ZbN]
 rw[I];have U:det (m+1) A=det (m+1) (ZbN A 0 (λj=>A 0 j-S m (λu=>x u*A (u+1) j)))+1*det (m+1) (ZbN A 0 (λj=>S m (λu=>x u*A (u+1) j))):=by(conv=>lhs;rw[R]);exact Zfy A (λj=>A 0 j-S m (λu=>x u*A (u+1) j)) (λj=>S m (λu=>x u*A (u+1) j)) 1 (Nat.succ_pos m)
 have e3:det (m+1) (ZbN A 0 (λj=>S m (λu=>x u*A (u+1) j)))=0:=by rw[ZAz A m x (λu=>A (u+1)) (Nat.succ_pos m)];refine ZdQ λu hu=> ?_;rw[Zki (i:=0) (k:=u+1) (by omega) (by omega) (by omega)];grind;grind [ZbN]
 rw[U,e3,det,Zl4 (Nat.succ_pos m)];rw[Zul];have e4:det m (mnr A 0)=det m (Cm M ρ C):=ZbI λa b _ _=>by rw[<-I];simp[mnr,sk,Cm,con,XaS,if_false]
 have e5:ZbN A 0 (λj=>A 0 j-S m (λu=>x u*A (u+1) j)) 0 0=M r k-cmb m x ρ M k:=by simp[ZbN,if_pos];rw[J,<-I];rfl
 rw[e4,e5,sg];grind;intro t ht h0;have e6:ZbN A 0 (λj=>A 0 j-S m (λu=>x u*A (u+1) j)) 0 t=0:=by simp[ZbN,if_pos];rw[J];obtain⟨t,rfl⟩: ∃s,t=s+1:=⟨t-1,by omega⟩;have:=h t (by omega);rw[<-I];exact this
 rw[e6];grind
def Zn1 (L:Rat): ∀ (n:Nat) (M:Mx),det n (λi j=>L*M i j)=L^n*det n M
 |0,M=>by rw[det,det];grind
 |n+1,M=>by rw[det,det,<-Zds];refine ZaE λk _=> ?_;have:=Zn1 L n (mnr M k);have e:mnr (λi j=>L*M i j) k=λi j=>L*mnr M k i j:=rfl;rw[e,this];grind
structure Ints (n W:Nat) (M:Mx) (L:Int) (B:Nat):Prop where
 ne:L≠0
 le:L.natAbs<=B
 z: ∀i j,i<n->j<W-> ∃z:Int,(L:Rat)*M i j=z/\z.natAbs<=B
theorem Zgp {b:Int} (h:b≠0):(b:Rat)≠0:=λe=>h (by exact_mod_cast e)
theorem Zt8 {x:Rat} (h:x≠0): ∀n:Nat,x^n≠0
 |0=>by rw[Rat.pow_zero];decide
 |n+1=>by rw[Rat.pow_succ];intro j;rcases Rat.mul_eq_zero.1 j with h1|h1;exact Zt8 h n h1;exact h h1
def ZkU {m B:Nat} {Z:Mx} {x e:Nat->Rat} (hZ: ∀i j,i<m->j<m-> ∃z:Int,Z i j=z/\z.natAbs<=B) (he: ∀j,j<m-> ∃z:Int,e j=z/\z.natAbs<=B) (hd:det m Z≠0) (h: ∀j,j<m->S m (λt=>x t*Z t j)=e j):
 ∃b:Int,b≠0/\b.natAbs<=bd m B/\ ∀u,u<m-> ∃a:Int,a.natAbs<=bd m B/\x u*b=a:=by
 let⟨b,C,I⟩:=ZrX hZ
 rw[C]at hd;refine⟨b,λJ=>hd (by rw[J];rfl),I,λu hu=> ?_⟩;let⟨a,R,U⟩:=ZrX (B:=B) (n:=m) (M:=ZbN Z u e) λr c hr hc=>by grind [ZbN]
 refine⟨a,U, ?_⟩;rw[<-C,<-R,ZJJ hu h]
def ZuY {m B D:Nat} {x w:Nat->Rat} {b:Int} (j: ∀u,u<m-> ∃a:Int,a.natAbs<=D/\x u*b=a) (hw: ∀u,u<m-> ∃z:Int,w u=z/\z.natAbs<=B): ∃a:Int,a.natAbs<=m*(B*D)/\S m (λu=>x u*w u)*b=a:=by
 let⟨a,C,I⟩:=ZCX (n:=m) (f:=λu=>b*(x u*w u)) (B:=B*D) λu hu=>by(let⟨p,J,R⟩:=j u hu);(let⟨q,U,q2⟩:=hw u hu);refine⟨q*p, ?_, ?_⟩;grind;simp_all [XbD,Xa0]
 rw[Zds]at C;grind
def ZBd {n W m i j B:Nat} {M:Mx} {L:Int} {ρ C:Nat->Nat} {x:Nat->Rat} (hI:Ints n W M L B) (I: ∀u,u<m->ρ u<n) (J: ∀t,t<m->C t<W) (hd:det m (Cm M ρ C)≠0) (hi:i<n) (hx: ∀t,t<m->M i (C t)-cmb m x ρ M (C t)=0) (R:j<W):
 ∃a b:Int,b≠0/\M i j-cmb m x ρ M j=a/b/\a.natAbs<=(m+1)*(B*bd m B)/\b.natAbs<=B*bd m B:=by
 have hL:=Zgp hI.ne;let⟨b,U,b2,b3⟩:=ZkU (x:=x) (λa c ha hc=>hI.z _ _ (I a ha) (J c hc)) (λt ht=>hI.z _ _ hi (J t ht))
  (by
   show det m (λa c=>(L:Rat)*Cm M ρ C a c)≠0;simp_all [Zn1,Rat.mul_eq_zero,Zt8])
  (λt ht=>by
   grind [cmb,Zds,ZaE])
 let⟨c,c1,c2⟩:=ZuY b3 λu hu=>hI.z _ _ (I u hu) R
 let⟨z,z1,z2⟩:=hI.z i j hi R
 have e:S m (λu=>x u*((L:Rat)*M (ρ u) j))=L*cmb m x ρ M j:=by grind [cmb,Zds,ZaE]
 rw[e]at c2;have hb:=Zgp U;refine⟨z*b-c,L*b, ?_, ?_, ?_, ?_⟩;exact Int.mul_ne_zero hI.ne U;rw[Rat.intCast_sub,Rat.intCast_mul,Rat.intCast_mul,<-z1,<-c2];grind;have h1:(z*b-c).natAbs<=(z*b).natAbs+c.natAbs:=by omega
 have h2:(z*b).natAbs<=B*bd m B:=by rw[XbD];exact Xa0 z2 b2
 rw[Nat.succ_mul];omega;rw[XbD];exact Xa0 hI.le b2
def Zw6 {n W m j B:Nat} {M:Mx} {L:Int} {ρ C:Nat->Nat} {x:Nat->Rat} (hI:Ints n W M L B) (hB:1<=B) (I: ∀u,u<m->ρ u<n) (J: ∀t,t<m->C t<W) (hd:det m (Cm M ρ C)≠0) (hx: ∀t,t<m->cmb m x ρ M (C t)=0\/cmb m x ρ M (C t)=1) (hj:j<W):
 ∃a b:Int,b≠0/\cmb m x ρ M j=a/b/\a.natAbs<=(m+1)*(B*bd m B)/\b.natAbs<=B*bd m B:=by
 have hL:=Zgp hI.ne;have eL: ∀t,S m (λu=>x u/(L:Rat)*((L:Rat)*M (ρ u) t))=cmb m x ρ M t:=λt=>by grind [cmb,ZaE]
 let⟨b,R,b2,b3⟩:=ZkU (λa c ha hc=>hI.z _ _ (I a ha) (J c hc)) (λt U=>by
    rcases hx t U with h|h;exact⟨0,h,Xak _⟩;exact⟨1,h,hB⟩)
  (by
   show det m (λa c=>(L:Rat)*Cm M ρ C a c)≠0;simp_all [Zn1,Rat.mul_eq_zero,Zt8])
  (λt U=>eL _)
 let⟨c,c1,c2⟩:=ZuY b3 λu hu=>hI.z _ _ (I u hu) hj
 have hb:=Zgp R;refine⟨c,b,R, ?_, ?_, ?_⟩;rw[<-c2];grind;grind;exact XaK b2 (Nat.le_mul_of_pos_left _ hB)
def ZKg (x:Rat) (f:Nat->Rat):Nat->Rat
 |0=>x
 |n+1=>f n
def ZsJ (m:Nat) (a:Rat) (x:Nat->Rat) (o:Nat) (ρ:Nat->Nat) (M:Mx) (j:Nat):cmb (m+1) (ZKg a x) (con o ρ) M j=a*M o j+cmb m x ρ M j:=by rw[cmb,ZrY,cmb];rfl
def ZxB (m:Nat) (x y:Nat->Rat) (c:Rat) (ρ:Nat->Nat) (M:Mx) (j:Nat):cmb m (λu=>x u+c*y u) ρ M j=cmb m x ρ M j+c*cmb m y ρ M j:=by rw[cmb,cmb,cmb,<-Zds,<-Zls];grind
def ZFp (m:Nat) (y:Nat->Rat) (c:Rat) (ρ:Nat->Nat) (M:Mx) (j:Nat):cmb m (λu=>c*y u) ρ M j=c*cmb m y ρ M j:=by grind [cmb,Zds,ZaE]
def kap (p:List Nat) (t:Nat):Nat:=p.getD (p.length-1-t) 0
def ZeE {p:List Nat} {k t:Nat}:(p++ [k]).getD t 0=if t<p.length then p.getD t 0 else if t=p.length then k else 0:=by grind
def ZDk {p:List Nat} {k t:Nat} (j:t<p.length+1):kap (p++ [k]) t=con k (kap p) t:=by unfold kap;rw[Xal,List.length_singleton,ZeE];cases t with|zero=>rw[if_neg (by omega),if_pos (by omega)];rfl|succ t=>rw[if_pos (by omega),show p.length+1-1-(t+1)=p.length-1-t by omega];rfl
structure Elm (n W:Nat) (M:Mx) (k:Nat) (p:List Nat) (N:Mx):Prop where
 req:REq n W M N
 ech:Ech n k p.length (λt=>p.getD t 0) N
 kinds: ∃ρ:Nat->Nat,(∀u,u<p.length->ρ u<n)/\det p.length (Cm M ρ (kap p))≠0/\
  (∀i,i<p.length-> ∃x,∀j,j<W->N i j=cmb p.length x ρ M j)/\
  (∀i,p.length<=i->i<n-> ∃o x,o<n/\ ∀j,j<W->N i j=M o j-cmb p.length x ρ M j)
def Elm.start {n W:Nat} {M N:Mx} (h: ∀i j,i<n->j<W->M i j=N i j):Elm n W M 0 [] N:=by refine⟨.of_eq h,⟨Xak _,λs t _ h=>absurd h (XaS _),λt h=>absurd h (XaS _),λt h=>absurd h (XaS _),λi t _ h=>absurd h (XaS _),λi j _ _ h=>absurd h (XaS _)⟩,λu=>u,λu h=>absurd h (XaS _), ?_,λi h=>absurd h (XaS _), ?_⟩;grind [det];intro i _ hi;refine⟨i,λ_=>0,hi,λj C=> ?_⟩;show N i j=M i j-cmb 0 _ _ _ _;rw[cmb,S,h i j hi C];grind
def Elm.skip {n W k:Nat} {M N:Mx} {p:List Nat} (h:Elm n W M k p N) (I: ∀i,p.length<=i->i<n->N i k=0):Elm n W M (k+1) p N:=by refine⟨h.req,⟨h.ech.mn,h.ech.inc,λt C=>Nat.lt_succ_of_lt (h.ech.lt t C),h.ech.one,h.ech.col,λi j hi hn J=> ?_⟩,h.kinds⟩;by_cases e:j=k;grind;exact h.ech.low i j hi hn (by omega)
def Elm.kap_lt {n W k M N p} (h:Elm n W M k p N) {t} (j:t<p.length):kap p t<k:=h.ech.lt _ (by omega)
def REq.clear {n W m k M N} (hm:m<n) (h: ∀i j,i<n->j<W->N i j=if i=m then M m j else M i j-M i k*M m j):REq n W M N:=by
 have: ∀t,t<=n->REq n W M (λi j=>if i<t then(if i=m then M m j else M i j-M i k*M m j)else M i j):=by intro t;induction t with|zero=>intro _;exact .of_eq λi j _ _=>by rw[if_neg (XaS i)]|succ t I=>intro J;refine(I (by omega)).trans ?_;by_cases e:t=m;refine .of_eq λi j hi C=> ?_;grind;refine(REq.add (-M t k) (by omega) hm e).trans (.of_eq λi j hi C=> ?_);grind [ZbN]
 exact(this n (Xae n)).trans (.of_eq λi j hi C=>by rw[if_pos hi,h i j hi C])
def Elm.step {n W k q M N N' p} (h:Elm n W M k p N) (hq:p.length<=q) (ae:q<n) (hk:k<W) (hd:N q k≠0)
 (hN: ∀i j,i<n->j<W->N' i j=if i=p.length then N q j/N q k else swR N p.length q i j-swR N p.length q i k*(N q j/N q k)):Elm n W M (k+1) (p++ [k]) N':=by
 have aa:p.length<n:=Nat.lt_of_le_of_lt hq ae;have hl:(p++ [k]).length=p.length+1:=by rw[Xal];rfl
 have af: ∀j,swR N p.length q p.length j=N q j:=λj=>if_pos rfl
 have C: ∀i j,i<p.length->swR N p.length q i j=N i j:=λi j hi=>by simp only[swR];rw[if_neg (by omega),if_neg (by omega)]
 have R: ∀i,p.length<i->i<n-> ∃i',p.length<=i'/\i'<n/\ ∀j,swR N p.length q i j=N i' j:=λi hi U=>by by_cases e:i=q;exact⟨p.length,Xae _,aa,λj=>by simp only[swR];rw[if_neg (by omega),if_pos e]⟩;exact⟨i,by omega,U,λj=>by simp only[swR];rw[if_neg (by omega),if_neg e]⟩
 have low:=h.ech.low;have I: ∀j,j<k->N q j=0:=λj J=>low q j hq ae J
 have ag:N q k/N q k=1:=by grind
 refine⟨?_, ?_, ?_⟩;refine h.req.trans ((REq.sw (i:=p.length) (r:=q) aa ae).trans ((REq.scale (i:=p.length) (c:=(N q k)⁻¹) aa (by grind)).trans ?_));refine REq.clear (m:=p.length) (k:=k) aa λi j hi J=> ?_;rw[hN i j hi J];by_cases e:i=p.length;subst e;rw[if_pos rfl,if_pos rfl];simp only[ZbN,if_pos];rw[af];grind;rw[if_neg e,if_neg e];simp only[ZbN,if_pos];rw[af];grind;rw[hl];refine⟨aa, ?_, ?_, ?_, ?_, ?_⟩;intro s t ai ht;rw[ZeE,ZeE,if_pos (show s<p.length by omega)];by_cases e:t<p.length;rw[if_pos e];exact h.ech.inc s t ai e;rw[if_neg e,if_pos (by omega)];exact h.ech.lt s (by omega);intro t ht;rw[ZeE];by_cases e:t<p.length;rw[if_pos e];exact Nat.lt_succ_of_lt (h.ech.lt t e);rw[if_neg e,if_pos (by omega)];exact XaA k;intro t ht;rw[ZeE];by_cases e:t<p.length;rw[if_pos e];have ab:=h.ech.lt t e;rw[hN t _ (by omega) (by omega),if_neg (by omega),C t _ e,h.ech.one t e,I _ ab];grind;have e2:t=p.length:=by omega
 rw[if_neg e,if_pos e2,hN t k (by omega) hk,if_pos e2,ag];intro i t hi ht hit;rw[ZeE];by_cases e:t<p.length;rw[if_pos e];have ab:=h.ech.lt t e;rw[hN i _ hi (by omega)];by_cases e2:i=p.length;rw[if_pos e2,I _ ab];grind;rw[if_neg e2,I _ ab];have:swR N p.length q i (p.getD t 0)=0:=by by_cases e3:i<p.length;rw[C i _ e3];exact h.ech.col i t hi e hit;obtain⟨i',h1,h2,h3⟩:=R i (by omega) hi;rw[h3];exact low i' _ h1 h2 ab
 rw[this];grind;rw[if_neg e,if_pos (by omega),hN i k hi hk,if_neg (by omega),ag];grind;intro i j hi U J;obtain⟨i',h1,h2,h3⟩:=R i (by omega) U;rw[hN i j U (by omega),if_neg (by omega)];by_cases e:j=k;rw[e,ag];grind;rw[h3,low i' j h1 h2 (by omega),I j (by omega)];grind;obtain⟨ρ,aj,ah,hP,hE⟩:=h.kinds;obtain⟨o,xq,ho,ad⟩:=hE q hq ae;rw[hl];refine⟨con o ρ, ?_, ?_, ?_, ?_⟩;intro u hu;cases u with|zero=>exact ho|succ u=>exact aj u (by omega)
 rw[ZbI (N:=Cm M (con o ρ) (con k (kap p))) λi j hi J=>by simp only[Cm];rw[ZDk J]];rw[ZGx (x:=xq) λt ht=>by rw[<-ad _ (by have:=h.kap_lt ht;omega)];exact I _ (h.kap_lt ht)];intro h0;rcases Rat.mul_eq_zero.1 h0 with h1|h1;exact hd (by rw[ad k hk];exact h1);exact ah h1;intro i hi;by_cases e:i=p.length;refine⟨ZKg (N q k)⁻¹ (λu=> -(N q k)⁻¹ *xq u),λj J=> ?_⟩;rw[ZsJ,ZFp,hN i j (by omega) J,if_pos e,ad j J];grind;obtain⟨x,hx⟩:=hP i (by omega);refine⟨ZKg (-(N i k/N q k)) (λu=>x u+(N i k/N q k)*xq u),λj J=> ?_⟩;rw[ZsJ,ZxB,hN i j (by omega) J,if_neg e,C i j (by omega),C i k (by omega),<-hx j J];rw[show N q j=M o j-cmb p.length xq ρ M j from ad j J];grind;intro i hi U;obtain⟨i',h1,h2,h3⟩:=R i (by omega) U;obtain⟨o',x,ak,hx⟩:=hE i' h1 h2;refine⟨o',ZKg (N i' k/N q k) (λu=>x u+ -(N i' k/N q k)*xq u),ak,λj J=> ?_⟩;rw[ZsJ,ZxB,hN i j U J,if_neg (by omega),h3,h3];rw[show N q j=M o j-cmb p.length xq ρ M j from ad j J,show N i' j=M o' j-cmb p.length x ρ M j from hx j J];grind
def Zw3 {B} (hB:1<=B) {m}: ∀n,m<=n->bd m B<=bd n B
 |0,h=>by rw[show m=0 by omega];exact Xae _
 |n+1,h=>by by_cases e:m=n+1;grind;exact XaK (Zw3 hB n (by omega)) (XaK (Nat.le_mul_of_pos_left _ hB) (Nat.le_mul_of_pos_left _ (Nat.succ_pos n)))
def Elm.size {n W k i j B M N p L} (h:Elm n W M k p N) (hI:Ints n W M L B) (hB:1<=B) (hk:k<=W) (hi:i<n) (hj:j<W): ∃a b:Int,b≠0/\N i j=a/b/\a.natAbs<=(n+1)*(B*bd n B)/\b.natAbs<=(n+1)*(B*bd n B):=by
 let⟨ρ,R,I,hP,hE⟩:=h.kinds
 have C: ∀t,t<p.length->kap p t<W:=λt J=>by have:=h.kap_lt J;omega
 have mono:B*bd p.length B<=B*bd n B:=Nat.mul_le_mul_left _ (Zw3 hB n h.ech.mn);have fin:(∃a b:Int,b≠0/\N i j=a/b/\a.natAbs<=(p.length+1)*(B*bd p.length B)/\b.natAbs<=B*bd p.length B)-> ∃a b:Int,b≠0/\N i j=a/b/\a.natAbs<=(n+1)*(B*bd n B)/\b.natAbs<=(n+1)*(B*bd n B):=by rintro⟨a,b,U,h2,h3,h4⟩;refine⟨a,b,U,h2,XaK h3 (Xa0 (by have:=h.ech.mn;omega) mono),XaK (XaK h4 mono) (Nat.le_mul_of_pos_left _ (Nat.succ_pos n))⟩
 apply fin;by_cases e:i<p.length;let⟨x,hx⟩:=hP i e
 let⟨a,b,U,h2,h3,h4⟩:=Zw6 (x:=x) hI hB R C I (λt J=>by rw[<-hx _ (C t J)];have hs:p.length-1-t<p.length:=(by omega);by_cases e2:i=p.length-1-t;right;have:=h.ech.one _ hs;rw[<-e2]at this;unfold kap;rw[<-e2];exact this;left;exact h.ech.col i _ hi hs e2) hj
 grind;let⟨o,x,ho,hx⟩:=hE i (by omega) hi
 let⟨a,b,U,h2,h3,h4⟩:=ZBd (x:=x) hI R C I ho (λt J=>by rw[<-hx _ (C t J)];exact h.ech.low i _ (by omega) hi (h.kap_lt J)) hj
 grind
def ZgB (n:Nat) (M:Mx):Mx:=λi j=>if j<n then M i j else if j=n+i then 1 else 0
def Zo2 n g: ∀m,S (n+m) g=S n g+S m λk=>g (n+k)
 |0=>by rw[S];show S n g=_;grind
 |m+1=>by show S (n+m) g+g (n+m)=_;rw[Zo2 n g m,S];grind
def Ztr {n i} M (y:Nat->Rat) (hi:i<n):S (n+n) (λj=>ZgB n M i j*y j)=S n (λj=>M i j*y j)+y (n+i):=by rw[Zo2,<-Zlq (λk=>y (n+k)) hi];grind [ZaE,ZgB]
section
variable {n:Nat} {p:List Nat} {M N:Mx}
def ZDL (hE:Elm n (n+n) (ZgB n M) n p N) (C: ∀y:Nat->Rat,(∀i,i<n->S n (λj=>M i j*y j)=0)-> ∀j,j<n->y j=0):p.length=n:=by
 have hm:=hE.ech.mn;apply Decidable.byContradiction;intro aa;have R:Ech n n p.length (λt=>p.getD t 0) λi j=>if j<n then N i j else 0:=
  ⟨hm,hE.ech.inc,hE.ech.lt,λt J=>by rw[if_pos (hE.ech.lt t J)];exact hE.ech.one t J,λi t hi J h=>by rw[if_pos (hE.ech.lt t J)];exact hE.ech.col i t hi J h,λi j U h2 I=>by rw[if_pos I];exact hE.ech.low i j U h2 I⟩
 refine R.many (by omega) (λ_=>0) ⟨λi _=> ?_,λy hy j hj=> ?_⟩;simp_all [XbO,ZdQ];have U: ∀i,i<n->S (n+n) (λj=>N i j*if j<n then y j else 0)=0:=λi hi=>by
   have h2:_=if n<n then N i n else 0:=hy i hi
   rw[if_neg (XbO n)]at h2;have I:S n (λj=>N i j*if j<n then y j else 0)=S n λj=>(if j<n then N i j else 0)*y j:=ZaE λk C=>(by rw[if_pos C,if_pos C]);rw[Zo2,ZdQ (f:=λk=>N i (n+k)*if n+k<n then y (n+k)else 0) λk _=>by rw[if_neg (by omega)];grind,I];grind
 have I:=(hE.req.sol _).2 U;refine C y (λi hi=> ?_) j hj;have h4:=I i hi;rw[Ztr M _ hi,if_neg (by omega),ZaE λk C=>by rw[if_pos C]]at h4;grind
def Zzc (hE:Elm n (n+n) (ZgB n M) n p N) (hp:p.length=n) (r:Nat->Rat) {i:Nat} (hi:i<n):S n (λj=>M i j*S n λc=>N j (n+c)*r c)=r i:=by
 have C:=hE.ech;rw[hp]at C;have hf:=C.full;have U: ∀i,i<n->S (n+n) (λj=>N i j*if j<n then S n (λc=>N j (n+c)*r c)else-r (j-n))=0:=λi hi=>by rw[Zo2,Zl4 hi λk I J=>by have:=C.col i k hi I λe=>J e.symm;grind];have R:=C.one i hi;rw[hf i hi]at R;rw[R,if_pos hi,ZaE (f:=λk=>N i (n+k)*if n+k<n then S n (λc=>N (n+k) (n+c)*r c)else-r (n+k-n)) (g:=λc=> -1*(N i (n+c)*r c)) λk _=>by rw[if_neg (by omega),Xbe];grind,Zds];grind
 have h3:=(hE.req.sol _).2 U i hi;rw[Ztr M _ hi,if_neg (by omega),Xbe,ZaE λk I=>by rw[if_pos I]]at h3;grind
def ZDe (hE:Elm n (n+n) (ZgB n M) n p N) (hp:p.length=n) {L:Rat} {B:Nat} {x r:Nat->Rat} (hL:L≠0) (hM: ∀i j,i<n->j<n-> ∃z:Int,L*M i j=z/\z.natAbs<=B) (U: ∀i,i<n-> ∃z:Int,L*r i=z/\z.natAbs<=B) (hx: ∀i,i<n->S n (λj=>M i j*x j)=r i):
 ∃b:Int,b≠0/\b.natAbs<=bd n B/\ ∀u,u<n-> ∃a:Int,a.natAbs<=bd n B/\x u*b=a:=by
 have C:=hE.ech;let⟨f,J,R⟩:=(hE.req.min p.length _ λj I=>XaW (C.lt j I) (by omega)).2 C.minor
 rw[hp]at C J R;rw[ZbI λi j _ I=>by show ZgB n M (f i) (p.getD j 0)=_;rw[show p.getD j 0=j from C.full j I,ZgB,if_pos I]]at R;refine ZkU (λi j hi I=>hM _ _ (J j I) hi) (λj I=>U _ (J j I)) ?_ λj I=> ?_;rw[Zn1,show(λt j=>M (f j) t)=tr λi j=>M (f i) j from rfl,Zyb];grind [Rat.mul_eq_zero,Zt8];grind [Zds,ZaE]
end
structure Grid (N m:Nat) (f t:Nat->Nat) (b:Nat->Rat) (hd:Nat->Bool) (isl:Nat->Nat):Prop where
 ok: ∀k,k<m->f k<N/\t k<N
 pos: ∀k,k<m->0<b k
 flat: ∀x:Nat->Rat,(∀k,k<m->x (f k)=x (t k))-> ∀i,i<N-> ∃h,h<N/\hd h=true/\isl h=isl i/\x i=x h
 one: ∀h h',h<N->h'<N->hd h=true->hd h'=true->isl h=isl h'->h=h'
 same: ∀k,k<m->isl (f k)=isl (t k)
structure Frees (N n:Nat) (F:Nat->Nat) (hd:Nat->Bool):Prop where
 lt: ∀a,a<n->F a<N/\hd (F a)=false
 inj: ∀a b,a<n->b<n->F a=F b->a=b
 all: ∀i,i<N->hd i=false-> ∃a,a<n/\F a=i
def ext (n:Nat) (F:Nat->Nat) (y:Nat->Rat) (i:Nat):Rat:=S n λc=>(if i=F c then 1 else 0)*y c
section
variable {N m n:Nat} {f t F:Nat->Nat} {b:Nat->Rat} {hd:Nat->Bool} {isl:Nat->Nat}
theorem ZxI (I:Frees N n F hd) {a:Nat} (C:a<n) (y:Nat->Rat):ext n F y (F a)=y a:=by rw[ext,Zl4 C λk J j=>by rw[if_neg λe=>j (I.inj _ _ C J e).symm];grind,if_pos rfl];grind
theorem Ztf (j:Frees N n F hd) {i:Nat} (hi:hd i=true) (y:Nat->Rat):ext n F y i=0:=ZdQ λk C=>by rw[if_neg λe=>by have:=(j.lt k C).2;rw[<-e,hi]at this;cases this];grind
def Zxt (C:Frees N n F hd) (g y:Nat->Rat):S N (λj=>g j*ext n F y j)=S n λc=>g (F c)*y c:=by
 have I:S N (λj=>g j*ext n F y j)=S N λj=>S n λc=>(if j=F c then 1 else 0)*(g j*y c):=ZaE λj _=>by rw[ext,<-Zds];exact ZaE λk _=>by grind
 rw[I,Zrc];exact ZaE λc J=>Zlq (λj=>g j*y c) (C.lt c J).1
def ZvJ (hG:Grid N m f t b hd isl) (j:Frees N n F hd) (y:Nat->Rat) (h: ∀a,a<n->S n (λc=>lap f t b m (F a) (F c)*y c)=0): ∀c,c<n->y c=0:=by
 have I:=ZuK hG.ok hG.pos λi hi=>by cases C:hd i with|true=>exact .inl (Ztf j C y)|false=>obtain⟨a,J,rfl⟩:=j.all i hi C;exact .inr (by rw[Zxt j (lap f t b m (F a))];exact h a J)
 intro c R;let⟨k,_,U,_,h3⟩:=hG.flat _ I (F c) (j.lt c R).1
 grind [ZxI,Ztf]
def ZFo (hG:Grid N m f t b hd isl) (hF:Frees N n F hd) {θ q:Nat->Rat} (h: ∀a,a<n->S N (λj=>lap f t b m (F a) j*θ j)=q (F a)) (h0: ∀h,h<N->hd h=true->S N (λi=>(if isl i=isl h then 1 else 0)*q i)=0): ∀i,i<N->S N (λj=>lap f t b m i j*θ j)=q i:=by intro i hi;cases J:hd i with|false=>obtain⟨a,R,rfl⟩:=hF.all i hi J;exact h a R|true=>have h3:S N (λj=>(if isl j=isl i then 1 else 0)*(S N (λk=>lap f t b m j k*θ k)-q j))=0:=(by rw[ZaE (g:=λj=>(if isl j=isl i then 1 else 0)*S N (λk=>lap f t b m j k*θ k)-(if isl j=isl i then 1 else 0)*q j) λk _=>by grind,ZGk,(Zv7 (b:=b) hG.ok (u:=λj=>if isl j=isl i then 1 else 0) (λk I=>by simp[hG.same k I]) θ),(h0 i hi J)];grind);rw[Zl4 hi λk I U=> ?_,if_pos rfl]at h3;grind;cases C:hd k with|true=>rw[if_neg λe=>U (hG.one _ _ I hi C J e)];grind|false=>obtain⟨a,R,rfl⟩:=hF.all k I C;rw[h a R];grind
def Zuk (N m:Nat) (f t:Nat->Nat) (b q:Nat->Rat) (H:Nat->Nat):Mx:=λi j=>if i<N then(if j<N then lap f t b m i j else q i)else if j=H (i-N)then 1 else 0
def Zux {e:Nat} {q θ:Nat->Rat} {H:Nat->Nat} (I: ∀a,a<e->H a<N):Sol (N+e) N (Zuk N m f t b q H) θ<->(∀i,i<N->S N (λj=>lap f t b m i j*θ j)=q i)/\ ∀a,a<e->θ (H a)=0:=by
 constructor;intro h;refine⟨λi hi=> ?_,λa C=> ?_⟩;have:=h i (by omega);simp_all [Zuk,XbO,ZaE];have:=h (N+a) (by omega);rw[ZaE λj _=>by rw[Zuk,if_neg (by omega),Xbe],Zlq θ (I a C),Zuk,if_neg (by omega),Xbe,if_neg (by have:=I a C;omega)]at this;exact this;rintro⟨R,J⟩ i hi;by_cases hl:i<N;simp_all [Zuk,XbO,ZaE];have C:i-N<e:=by omega
 rw[ZaE λj _=>by rw[Zuk,if_neg hl],Zlq θ (I _ C),J _ C,Zuk,if_neg hl,if_neg (by have:=I _ C;omega)]
def Zy4 (hG:Grid N m f t b hd isl) {e:Nat} {q θ:Nat->Rat} {H:Nat->Nat} (C: ∀a,a<e->H a<N) (hA: ∀i,i<N->hd i=true-> ∃a,a<e/\H a=i)
 (I: ∀i,i<N->S N (λj=>lap f t b m i j*θ j)=q i) (J: ∀a,a<e->θ (H a)=0):ZwS (N+e) N (Zuk N m f t b q H) θ:=by
 refine⟨(Zux C).2 ⟨I,J⟩,λy R j U=> ?_⟩;let⟨g1,g2⟩:=(Zux C).1 R
 have h3:=ZuK (x:=λi=>y i-θ i) hG.ok hG.pos λi hi=> .inr (by rw[ZaE (g:=λj=>lap f t b m i j*y j-lap f t b m i j*θ j) λk _=>by grind,ZGk,I i hi,g1 i hi];grind);let⟨k,h4,h5,_,h6⟩:=hG.flat (λi=>y i-θ i) h3 j U
 grind
end
end La
namespace Go.Proofs.YtpdhpbldangmbaaGreatDoor
open Ne La
def brD (n:Ne.Net) (k:Nat):Br:=n.brs.getD k ([],[],[],1,1,0,0,0,0)
def fBr (n:Ne.Net) (k:Nat):Nat:=bAt n (brD n k).2.1
def tBr (n:Ne.Net) (k:Nat):Nat:=bAt n (brD n k).2.2.1
def kQ (x:Br):Rat:=Rat.divInt 1000000 (x.2.2.2.1*x.2.2.2.2.1)
def kS (x:Br):Rat:=kQ x*Rat.divInt x.2.2.2.2.2.1 1000
def bBr (n:Ne.Net) (k:Nat):Rat:=kQ (brD n k)
def sBr (n:Ne.Net) (k:Nat):Rat:=kS (brD n k)
def isl (n:Ne.Net) (i:Nat):Nat:=(Zj4 n).getD i 0
def hdB (n:Ne.Net) (i:Nat):Bool:=Zda (λa b=>decide (isl n a=isl n b)) i
def Zh1 (n:Ne.Net):List Nat:=(List.range (Zab n)).filter λi=> !hdB n i
def frF (n:Ne.Net) (a:Nat):Nat:=(Zh1 n).getD a 0
theorem Ztv {n:Ne.Net} {k:Nat} {x:Br} (h:n.brs[k]? =some x):brD n k=x:=by rw[brD,XaB,h];rfl
def Zl5 {n:Ne.Net} {k:Nat} (h:k<n.brs.length):n.brs[k]? =some (brD n k)/\brD n k∈n.brs:=by grind [Ztv,XaI]
theorem Zw4 {n:Ne.Net} {k:Nat} (h:k<n.brs.length):(brB n)[k]? =some (fBr n k,tBr n k):=by rw[brB,XaD,(Zl5 h).1];rfl
theorem Znv {n:Ne.Net} {i:Nat}:hdB n i=true<-> ∀j,j<i->isl n j≠isl n i:=by grind [hdB,Zda,XaH]
def ZEZ (n:Ne.Net) (i:Nat): ∃h,h<=i/\hdB n h=true/\isl n h=isl n i:=by
 induction i using Nat.strongRecOn with
 |_ i J=>
  by_cases C: ∃j,j<i/\isl n j=isl n i
  grind;exact⟨i,Xae i,Znv.2 λj I e=>C ⟨j,I,e⟩,rfl⟩
def Zpx {n:Ne.Net} (hf:Fine n) {x:Br} (j:x∈n.brs):(1<=x.2.2.2.1/\x.2.2.2.1<=10000)/\(500<=x.2.2.2.2.1/\x.2.2.2.2.1<=1500)/\(-1000<=x.2.2.2.2.2.1/\x.2.2.2.2.2.1<=1000)/\(0<=x.2.2.2.2.2.2.1/\x.2.2.2.2.2.2.1<=100000):=by have h:=(ZhV hf j).2.2;rw[Zri,Bool.not_eq_false']at h;simp[Xas]at h;exact⟨Ztp h.1.1.1.1.1,Ztp h.1.1.1.1.2,Ztp h.1.1.1.2,Ztp h.1.1.2⟩
def ZIy {n:Ne.Net} (hf:Fine n) {x:Br} (j:x∈n.brs):0<kQ x:=by
 let⟨C,I,_⟩:=Zpx hf j
 rw[kQ,Rat.divInt_eq_div,Rat.div_def];grind [Rat.mul_pos,Rat.inv_pos,Rat.intCast_pos]
section
variable {n:Ne.Net} (hf:Fine n)
include hf
theorem ZfK {k:Nat} (h:k<n.brs.length):fBr n k<Zab n/\tBr n k<Zab n:=ZqL hf _ (XaC (Zw4 h))
theorem ZKF:Grid (Zab n) n.brs.length (fBr n) (tBr n) (bBr n) (hdB n) (isl n):=by
 refine⟨λk j=>ZfK hf j,λk j=>ZIy hf (Zl5 j).2,λx hx i hi=> ?_,λh h' R J C h4 h5=> ?_,λk j=> ?_⟩;let⟨h,R,J,C⟩:=ZEZ n i
 refine⟨h,oM,J,C, ?_⟩;have I:=(ZnS hf (by omega:h<Zab n) hi).1 C;have: ∀ {u v},Rch (Zcy (-1)) (brB n) u v->x v=x u:=λI=>by induction I with|refl=>rfl|step _ U ih=>(let⟨k,y,g1,_,g3⟩:=U);have j:k<n.brs.length:=(by have:=(Xaf.1 g1).1;rwa[brB,Xar]at this);grind [Zw4]
 exact this I;grind [Nat.lt_trichotomy,Znv];exact(ZnS hf (ZfK hf j).1 (ZfK hf j).2).2 ((Rch.refl _).step ((λk j=>Zfg.2 ⟨_,XaC (Zw4 j), .inl ⟨rfl,rfl⟩⟩) k j))
end
theorem ZmZ {n:Ne.Net} {a:Nat} (j:a<(Zh1 n).length):(Zh1 n)[a]? =some (frF n a):=by rw[frF,XaB,Xac j];rfl
def ZfO (n:Ne.Net):Frees (Zab n) (Zh1 n).length (frF n) (hdB n):=by
 refine⟨λa j=> ?_,λa b j I e=> ?_,λi hi C=> ?_⟩;have h:=XaC (ZmZ j);grind [Zh1];refine(List.getElem?_inj j (List.Nodup.sublist List.filter_sublist List.nodup_range)).1 ?_;grind [Zh1,ZmZ];have h:i∈Zh1 n:=List.mem_filter.2 ⟨XbI.2 hi,by rw[C];rfl⟩;let⟨a,j⟩:=List.getElem?_of_mem h
 grind [ZmZ,Xbp]
def ZAx (n:Ne.Net):(Zh1 n).length<=Zab n:=by have:=List.length_filter_le (λi=> !hdB n i) (List.range (Zab n));rwa[XaX]at this
def Zfn (n:Ne.Net) (p:List Int):Nat->Nat->Int
 |0,_=>0
 |v+1,i=>Zfn n p v i+if i=(Zd1 n).getD v 0 then p.getD v 0 else 0
def qB (n:Ne.Net) (p:List Int) (m i:Nat):Rat:=(Zfn n p n.nodes.length i:Rat)+S m λk=>sBr n k*dlt (fBr n) (tBr n) k i
def ZiF (n:Ne.Net) (m:Nat):Mx:=lap (fBr n) (tBr n) (bBr n) m
def prD (n:Ne.Net):Nat->Nat
 |0=>1000
 |k+1=>prD n k*((brD n k).2.2.2.1*(brD n k).2.2.2.2.1).toNat
def Zll {n:Ne.Net} {p:List Int} (hp: ∀x∈p,-100000<=x/\x<=100000) (i:Nat): ∀v,(Zfn n p v i).natAbs<=v*100000
 |0=>by rw[Zfn];decide
 |v+1=>by have h:=Zll (n:=n) hp i v;have j: -100000<=p.getD v 0/\p.getD v 0<=100000:=(by rw[XaB];cases e:p[v]? with|none=>exact⟨dC,dC⟩|some x=>exact hp x (XaC e));grind [Zfn]
def Zu9 {n:Ne.Net} (hf:Fine n) (p:List Int) (u:Nat->Rat): ∀v,v<=n.nodes.length->S (Zab n) (λi=>u i*(Zfn n p v i:Rat))=S v λj=>u ((Zd1 n).getD j 0)*(p.getD j 0:Rat)
 |0,_=>ZdQ λk _=>by rw[Zfn];show u k*0=0;grind
 |v+1,C=>by rw[S,<-Zu9 hf p u v oM,<-Zlq (λi=>u i*(p.getD v 0:Rat)) (Znk hf (by omega:v<n.nodes.length)),<-Zls];refine ZaE λi _=> ?_;rw[Zfn,Rat.intCast_add];split;grind;grind
def ZsR (f t:Nat->Nat) (k i:Nat): ∃e:Int,dlt f t k i=e/\e.natAbs<=1:=by rw[dlt];by_cases j:i=f k<;>by_cases C:i=t k<;>simp[j,C,if_true,if_false];rw[<-j,if_pos C];exact⟨0,by grind,dC⟩;rw[<-j,if_neg C];exact⟨1,by grind,dC⟩;rw[<-C,if_neg j];exact⟨-1,by grind,dC⟩;exact⟨0,by grind,dC⟩
section
variable {n:Ne.Net} (hf:Fine n)
include hf
theorem ZtE: ∀ {m k:Nat},m<=n.brs.length->k<m-> ∃c,prD n m=1000*c*((brD n k).2.2.2.1*(brD n k).2.2.2.2.1).toNat
 |0,_,_,h=>absurd h oM
 |m+1,k,hm,h=>by
  by_cases e:k=m;subst e;have C: ∀j,∃c,prD n j=1000*c:=λj=>by induction j with|zero=>exact⟨1,rfl⟩|succ j J=>let⟨c,I⟩:=J;exact⟨c*_,by rw[prD,I,XbW]⟩
  (let⟨c,I⟩:=C k);grind [prD];(let⟨c,I⟩:=ZtE oM (by omega:k<m));grind [prD,XbW,XbR]
theorem Zdb: ∀ {m:Nat},m<=n.brs.length->0<prD n m/\prD n m<=1000*15000000^m
 |0,_=>⟨(by decide:0<1000),(by decide:1000<=1000*15000000^0)⟩
 |m+1,h=>by(let⟨j,C⟩:=Zdb (m:=m) oM);(let⟨⟨I,a2⟩,⟨J,b2⟩,_⟩:=Zpx hf (Zl5 (show m<n.brs.length by omega)).2);have R:=Int.mul_le_mul a2 b2 oM dC;have U:0<(brD n m).2.2.2.1*(brD n m).2.2.2.2.1:=Int.mul_pos oM oM;rw[prD,XbY,<-XbW];simp_all [Xa0]
theorem ZFN {m k:Nat} (hm:m<=n.brs.length) (J:k<m):(∃z:Int,(prD n m:Rat)*bBr n k=z/\z.natAbs<=2000*prD n m)/\ ∃z:Int,(prD n m:Rat)*sBr n k=z/\z.natAbs<=2000*prD n m:=by
 let⟨c,j⟩:=ZtE hf hm J
 let⟨⟨R,a2⟩,⟨U,b2⟩,⟨s1,s2⟩,_⟩:=Zpx hf (Zl5 (show k<n.brs.length by omega)).2
 have h3:=Int.mul_le_mul R U dC oM;let⟨D,hD⟩: ∃D,(brD n k).2.2.2.1*(brD n k).2.2.2.2.1=D:=⟨_,rfl⟩
 rw[hD]at j h3;have C:(D.toNat:Int)=D:=Int.toNat_of_nonneg oM;have h0:((D:Int):Rat)≠0:=Zgp oM;have hL:(prD n m:Rat)=1000*(c:Rat)*(D:Rat):=by rw[j,Rat.natCast_mul,Rat.natCast_mul,<-Rat.intCast_natCast D.toNat,C];rfl
 have h5:500*(1000*c)<=prD n m:=by rw[j,XbR 500];exact Xa0 (Xae _) oM
 have e1:(prD n m:Rat)*bBr n k=1000*(c:Rat)*1000000:=by rw[bBr,kQ,hD,hL,Rat.divInt_eq_div];grind
 refine⟨⟨((1000*c*1000000:Nat):Int), ?_, ?_⟩,⟨(c*1000000:Nat)*(brD n k).2.2.2.2.2.1, ?_, ?_⟩⟩;grind [Rat.intCast_natCast,Rat.natCast_mul];omega;rw[sBr,kS];show(prD n m:Rat)*(bBr n k*_)=_;rw[<-Rat.mul_assoc,e1,Rat.divInt_eq_div,Rat.intCast_mul,Rat.intCast_natCast,Rat.natCast_mul];have I:((brD n k).2.2.2.2.2.1:Rat)/(1000:Rat)*(1000:Rat)=((brD n k).2.2.2.2.2.1:Rat):=Rat.div_mul_cancel dC;generalize((brD n k).2.2.2.2.2.1:Rat)/(1000:Rat)=x at I;rw[<-I];show 1000*(c:Rat)*1000000*x=(c:Rat)*1000000*(x*1000);grind;rw[XbD,Xa3];have h7:((brD n k).2.2.2.2.2.1).natAbs<=1000:=oM;have:=Xa0 (Xae (c*1000000)) h7;omega
theorem ZnX {m:Nat} (hm:m<=n.brs.length) (i j:Nat): ∃z:Int,(prD n m:Rat)*ZiF n m i j=z/\z.natAbs<=m*(2000*prD n m):=by
 rw[ZiF,lap,<-Zds];refine ZCX λk C=> ?_;let⟨⟨z,J,z2⟩,_⟩:=ZFN hf hm C
 let⟨e,R,I⟩:=ZsR (fBr n) (tBr n) k i
 let⟨g,g1,g2⟩:=ZsR (fBr n) (tBr n) k j
 refine⟨z*(e*g), ?_, ?_⟩;grind;rw[XbD,XbD];have:=Xa0 z2 (Xa0 I g2);omega
theorem ZFI {p:List Int} (hp: ∀x∈p,-100000<=x/\x<=100000) {m:Nat} (hm:m<=n.brs.length) (i:Nat): ∃z:Int,(prD n m:Rat)*qB n p m i=z/\z.natAbs<=(n.nodes.length*100000+m*2000)*prD n m:=by
 let⟨z,j,z2⟩:=ZCX (n:=m) (f:=λk=>(prD n m:Rat)*(sBr n k*dlt (fBr n) (tBr n) k i)) (B:=2000*prD n m) λk C=>by(let⟨_,z,j,z2⟩:=ZFN hf hm C);(let⟨e,J,I⟩:=ZsR (fBr n) (tBr n) k i);refine⟨z*e, ?_, ?_⟩;grind;rw[XbD];have:=Xa0 z2 I;omega
 rw[Zds]at j;refine⟨(prD n m:Int)*Zfn n p n.nodes.length i+z, ?_, ?_⟩;rw[qB,Rat.intCast_add,Rat.intCast_mul,Rat.intCast_natCast,<-j];grind;have R:=Xa0 (Xae (prD n m)) (Zll hp (n:=n) i n.nodes.length);grind [Int.natAbs_add_le,prD,Zfn,XbD,Xa3,Xbs,XbW,XbR]
end
def gM (n:Ne.Net):Mx:=λa c=>ZiF n n.brs.length (frF n a) (frF n c)
def nF (n:Ne.Net):Nat:=(Zh1 n).length
structure IsTh (n:Ne.Net) (p:List Int) (θ:Nat->Rat):Prop where
 bal: ∀i,i<Zab n->S (Zab n) (λj=>ZiF n n.brs.length i j*θ j)=qB n p n.brs.length i
 hd: ∀i,i<Zab n->hdB n i=true->θ i=0
def ZIe (n:Ne.Net) (p:List Int):Prop:= ∀h,h<Zab n->hdB n h=true->S n.nodes.length (λv=>(if isl n ((Zd1 n).getD v 0)=isl n h then 1 else 0)*(p.getD v 0:Rat))=0
def ZIs {n:Ne.Net} (hf:Fine n): ∀y:Nat->Rat,(∀a,a<nF n->S (nF n) (λc=>gM n a c*y c)=0)-> ∀c,c<nF n->y c=0:=ZvJ (ZKF hf) (ZfO n)
def Zz4 (n:Ne.Net):List Nat:=(List.range (Zab n)).filter λi=>hdB n i
def hdF (n:Ne.Net) (a:Nat):Nat:=(Zz4 n).getD a 0
def nH (n:Ne.Net):Nat:=(Zz4 n).length
def Zx2 {n:Ne.Net} {a:Nat} (j:a<nH n):(Zz4 n)[a]? =some (hdF n a):=by rw[hdF,XaB,Xac j];rfl
def ZuI {n:Ne.Net} {a:Nat} (j:a<nH n):hdF n a<Zab n/\hdB n (hdF n a)=true:=by have h:=XaC (Zx2 j);grind [Zz4]
def refM (n:Ne.Net) (p:List Int):Mx:=Zuk (Zab n) n.brs.length (fBr n) (tBr n) (bBr n) (qB n p n.brs.length) (hdF n)
section
variable {n:Ne.Net} (hf:Fine n) {p:List Int}
include hf
theorem ZJo (I:ZIe n p) {h:Nat} (J:h<Zab n) (hd:hdB n h=true):S (Zab n) (λi=>(if isl n i=isl n h then 1 else 0)*qB n p n.brs.length i)=0:=by
 have C:=Zu9 hf p (λi=>if isl n i=isl n h then 1 else 0) n.nodes.length (Xae _);rw[I h J hd]at C;have R:S (Zab n) (λi=>(if isl n i=isl n h then 1 else 0)*S n.brs.length λk=>sBr n k*dlt (fBr n) (tBr n) k i)=0:=by rw[ZaE (g:=λi=>S n.brs.length λk=>sBr n k*(dlt (fBr n) (tBr n) k i*if isl n i=isl n h then 1 else 0)) λi _=>by rw[<-Zds];exact ZaE λk _=>by grind,Zrc];exact ZdQ λk j=>by rw[Zds,ZFa (ZfK hf j).1 (ZfK hf j).2 (λi=>if isl n i=isl n h then 1 else 0)];simp[(ZKF hf).same k j];grind
 rw[ZaE (g:=λi=>(if isl n i=isl n h then 1 else 0)*(Zfn n p n.nodes.length i:Rat)+(if isl n i=isl n h then 1 else 0)*S n.brs.length λk=>sBr n k*dlt (fBr n) (tBr n) k i) λi _=>by rw[qB];grind,Zls,C,R];grind
theorem ZLR (j:ZIe n p) {y:Nat->Rat} (C: ∀a,a<nF n->S (nF n) (λc=>gM n a c*y c)=qB n p n.brs.length (frF n a)):IsTh n p (ext (nF n) (frF n) y):=by refine⟨ZFo (ZKF hf) (ZfO n) (λa I=> ?_) λh J hd=>ZJo hf j J hd,λi _ hd=>Ztf (ZfO n) hd y⟩;exact(Zxt (ZfO n) (lap (fBr n) (tBr n) (bBr n) n.brs.length (frF n a)) y).trans (C a I)
theorem ZDq {θ:Nat->Rat} (h:IsTh n p θ):ZwS (Zab n+nH n) (Zab n) (refM n p) θ:=by
 refine Zy4 (ZKF hf) (λa j=>(ZuI j).1) (λi hi hd=> ?_) h.bal λa j=>h.hd _ (ZuI j).1 (ZuI j).2;let⟨a,j⟩:=List.getElem?_of_mem (List.mem_filter.2 ⟨XbI.2 hi,hd⟩)
 have hl:=(Xaf.1 j).1;exact⟨a,hl,by have:=(Zx2 hl).symm.trans j;exact Xbp this⟩
end
def ZD7 {B:Nat}: ∀n,n<=64->bd n B<=(64*B)^n
 |0,_=>Xae 1
 |n+1,h=>by rw[bd,XbY,XbR ((64*B)^n),<-XbW];exact Xa0 (Xa0 h (Xae B)) (ZD7 n oM)
def Zn0 (n:Ne.Net):Nat:=4000000*prD n n.brs.length
section
variable {n:Ne.Net} (hf:Fine n) {p:List Int}
include hf
theorem ZEU:1<=Zn0 n:=by have:=(Zdb hf (Xae n.brs.length)).1;rw[Zn0];omega
theorem ZDW (a c:Nat): ∃z:Int,(prD n n.brs.length:Rat)*gM n a c=z/\z.natAbs<=Zn0 n:=by
 let⟨z,j,C⟩:=ZnX hf (Xae n.brs.length) (frF n a) (frF n c)
 refine⟨z,j,XaK C ?_⟩;rw[<-XbW,Zn0];exact Xa0 (by have:=(ZaC hf).2.2.1;omega) (Xae _)
theorem ZIT (hp: ∀x∈p,-100000<=x/\x<=100000) (i:Nat): ∃z:Int,(prD n n.brs.length:Rat)*qB n p n.brs.length i=z/\z.natAbs<=Zn0 n:=by
 let⟨z,j,C⟩:=ZFI hf hp (Xae n.brs.length) i
 refine⟨z,j,XaK C ?_⟩;exact Xa0 (by have:=ZaC hf;omega) (Xae _)
theorem ZGS:Ints (nF n) (nF n+nF n) (ZgB (nF n) (gM n)) (prD n n.brs.length:Int) (Zn0 n):=by
 have C:=(Zdb hf (Xae n.brs.length)).1;have hle:prD n n.brs.length<=Zn0 n:=by rw[Zn0];omega
 refine⟨oM,by rw[Xa3];exact hle,λi j hi I=> ?_⟩;rw[ZgB,Rat.intCast_natCast];split;exact ZDW hf i j;split;grind [prD,Rat.intCast_natCast,Xa3];exact⟨0,by show _=(0:Rat);grind,oM⟩
end
open Go.Tx
def ZkI {α:Type} (z v:α) (s k:Int): ∀l:List (Int×α),Zin z k (Zu7 s v l)=if k=s then v else Zin z k l
 | []=>by rw[Zu7,Zin,Zin];by_cases h:k=s;rw[if_pos h,h,show(s==s)=true from beq_self_eq_true s];rfl;rw[if_neg h,show(k==s)=false from beq_eq_false_iff_ne.2 h];rfl
 |(q,u)::r=>by rw[Zu7];by_cases h:s=q;subst h;rw[show(s==s)=true from beq_self_eq_true s,cond_true,Zin,Zin];by_cases h:k=s;rw[if_pos h,h,show(s==s)=true from beq_self_eq_true s];rfl;rw[if_neg h,show(k==s)=false from beq_eq_false_iff_ne.2 h];rfl;rw[show(s==q)=false from beq_eq_false_iff_ne.2 h,cond_false,Zin,Zin,ZkI z v s k r];by_cases j:k=q;subst j;rw[show(k==k)=true from beq_self_eq_true k,cond_true,cond_true,if_neg λe=>h e.symm];rw[show(k==q)=false from beq_eq_false_iff_ne.2 j];rfl
def ZwR (l:List (Int×Int)):Bool:=l.all λe=>decide (e.2=0)
def ZuW {α:Type} (z:α) (k:Int): ∀l:List (Int×α),(∃e∈l,e.1=k/\Zin z k l=e.2)\/(Zin z k l=z/\ ∀e∈l,e.1≠k)
 | []=> .inr ⟨rfl,λe h=>absurd h Xaq⟩
 |e::r=>by rw[Zin];by_cases h:k=e.1;grind;rw[show(k==e.1)=false from beq_eq_false_iff_ne.2 h,cond_false];rcases ZuW z k r with⟨x,j,C,I⟩|⟨j,C⟩;grind;grind
def Nod {α:Type}:List (Int×α)->Prop
 | []=>True
 |e::r=>(∀x∈r,x.1≠e.1)/\Nod r
def ZxY {α:Type} {s:Int} {v:α}: ∀ {l:List (Int×α)},Nod l->Nod (Zu7 s v l)/\ ∀x∈Zu7 s v l,x.1=s\/ ∃y∈l,y.1=x.1
 | [],_=>⟨⟨λx h=>absurd h Xaq,trivial⟩,λx h=> .inl (by rw[Xav.1 h])⟩
 |e::r,h=>by(let⟨I,J⟩:=ZxY (s:=s) (v:=v) h.2);rw[Zu7];cases C:(s==e.1)with|true=>have C:=eq_of_beq C;refine⟨⟨λx j=>by rw[C];exact h.1 x j,h.2⟩,λx j=> ?_⟩;grind|false=>refine⟨⟨λx j=> ?_,I⟩,λx j=> ?_⟩;rcases J x j with e|⟨y,R,e⟩;rw[e];exact(beq_eq_false_iff_ne.1 C);rw[<-e];exact h.1 y R;grind
def ZyN {α:Type} (z:α): ∀ {l:List (Int×α)},Nod l-> ∀e∈l,Zin z e.1 l=e.2
 |x::r,h,e,he=>by rw[Zin];rcases XaF.1 he with rfl|he;rw[show(e.1==e.1)=true from beq_self_eq_true e.1];rfl;rw[show(e.1==x.1)=false from beq_eq_false_iff_ne.2 (h.1 e he)];exact ZyN z h.2 e he
def Zop {l:List (Int×Int)} (h:Nod l):ZwR l=true<-> ∀k,Zin 0 k l=0:=by rw[ZwR,XaH];constructor;intro j k;rcases ZuW 0 k l with⟨e,C,_,I⟩|⟨C,_⟩;grind;exact C;intro j e he;rw[decide_eq_true_eq,<-ZyN 0 h e he];exact j e.1
def iAt (n:Ne.Net) (v:Nat):Nat:=isl n ((Zd1 n).getD v 0)
def ZmQ (n:Ne.Net) (p:List Int):Nat->List (Int×Int)
 |0=> []
 |v+1=>Zu7 (iAt n v) (Zin 0 (iAt n v) (ZmQ n p v)+p.getD v 0) (ZmQ n p v)
def Zjk (n:Ne.Net) (p:List Int) (k:Int):Nat->Int
 |0=>0
 |v+1=>Zjk n p k v+if k=iAt n v then p.getD v 0 else 0
def ZgM (n:Ne.Net) (p:List Int) (k:Int): ∀v,Zin 0 k (ZmQ n p v)=Zjk n p k v
 |0=>rfl
 |v+1=>by rw[ZmQ,Zjk,ZkI];by_cases h:k=iAt n v;rw[if_pos h,if_pos h,h,ZgM n p _ v];rw[if_neg h,if_neg h,ZgM n p k v,Int.add_zero]
def Zks (n:Ne.Net) (p:List Int): ∀v,Nod (ZmQ n p v)
 |0=>trivial
 |v+1=>(ZxY (Zks n p v)).1
def Zxh {n:Ne.Net} {p:List Int} (hp: ∀x∈p,-100000<=x/\x<=100000) (k:Int): ∀v,(Zjk n p k v).natAbs<=v*100000
 |0=>by rw[Zjk];decide
 |v+1=>by have h:=Zxh (n:=n) hp k v;have j: -100000<=p.getD v 0/\p.getD v 0<=100000:=(by rw[XaB];cases e:p[v]? with|none=>exact⟨dC,dC⟩|some x=>exact hp x (XaC e));grind [Zjk]
def ZEr (n:Ne.Net) (p:List Int) (k:Nat): ∀v,(Zjk n p k v:Rat)=S v λj=>(if iAt n j=k then 1 else 0)*(p.getD j 0:Rat)
 |0=>rfl
 |v+1=>by rw[Zjk,S,Rat.intCast_add,ZEr n p k v];congr 1;by_cases h:iAt n v=k;rw[if_pos h,if_pos (by rw[h])];grind;rw[if_neg h,if_neg (λe=>h (by omega))];show(0:Rat)=_;grind
def ZE4 {n:Ne.Net} {p:List Int} (h: ∀k:Nat,Zjk n p k n.nodes.length=0):ZIe n p:=λx _ _=>by have:=ZEr n p (isl n x) n.nodes.length;rw[h]at this;exact this.symm
def ZnO (n:Ne.Net):Nat->List (Int×Bool)
 |0=> []
 |i+1=>Zu7 (isl n i) true (ZnO n i)
def Zp6 (n:Ne.Net) (k:Int): ∀i,Zin false k (ZnO n i)=(List.range i).any λj=>decide (k=isl n j)
 |0=>rfl
 |i+1=>by rw[ZnO,ZkI,XbP,List.any_append,List.any_cons,List.any_nil,Bool.or_false,Zp6 n k i];grind
def ZF0 (n:Ne.Net) (i:Nat):Zin false (isl n i) (ZnO n i)= !hdB n i:=by rw[Zp6,XbQ,List.any_eq_true,XbM,<-Bool.not_eq_true,Znv];grind
theorem Zhb {P:Nat->Bool} {i:Nat}:(List.range (i+1)).filter P=(List.range i).filter P++if P i=true then[i]else[]:=by grind [XbP,List.filter_cons_of_pos,List.filter_cons_of_neg]
def ZvT {P:Nat->Bool} {i:Nat}:((List.range i).filter P).length<=i:=by grind
def hcn (n:Ne.Net) (i:Nat):Nat:=((List.range i).filter λj=>hdB n j).length
def ZyG (n:Ne.Net):hcn n (Zab n)=nH n:=rfl
def ZD5 (n:Ne.Net) (i:Nat):hcn n i<=i:=ZvT
def Zol (n:Ne.Net) (i:Nat):hcn n (i+1)=hcn n i+if hdB n i=true then 1 else 0:=by grind [hcn,Zhb]
def ZfM (n:Ne.Net):Nat->Int
 |0=> -1
 |i+1=>if ZfM n i<isl n i then(isl n i:Int)else ZfM n i
section
variable {n:Ne.Net} (hf:Fine n)
include hf
theorem Ztu: ∀i,i<=Zab n-> -1<=ZfM n i/\ ∀v:Nat,(v:Int)<=ZfM n i<-> ∃j,j<i/\isl n j=v
 |0,_=>⟨by rw[ZfM];decide,λv=>⟨λh=>by rw[ZfM]at h;omega,λ⟨j,h,_⟩=>absurd h oM⟩⟩
 |i+1,hi=>by(let⟨J,R⟩:=Ztu i oM);rw[ZfM];by_cases hl:ZfM n i<isl n i;rw[if_pos hl];refine⟨oM,λv=>⟨λU=> ?_,λ⟨j,I,C⟩=> ?_⟩⟩;by_cases e:v=isl n i;exact⟨i,oM,e.symm⟩;(let⟨k,I,C⟩:=ZtS hf i oM v (show v<isl n i by omega));exact⟨k,oM,C⟩;grind;grind
theorem ZG2 {i:Nat} (hi:i<Zab n):decide (ZfM n i<(isl n i:Int))=hdB n i:=by have h:=(Ztu hf i oM).2 (isl n i);rw[XbQ,decide_eq_true_eq,Znv];grind
end
open Go.Am Dv
def Zz6 (x:Int):x.fdiv (2^min (Int.toNat 32) i64.bits)=x/4294967296:=by show x.fdiv 4294967296=_;grind
def ZmS (a b:List Int) (ha:Wd a) (hb:Wd b) (aa:b.length<=a.length) (hl:a.length<=1000000000) (hle:wv b<=wv a):PureOK Tryz.prog Zai 107 [ZbC a,ZbC b] (λV=> ∃out,V=ZbC out/\Wd out/\out.length=a.length/\wv out=wv a-wv b):=by
 refine Zae Zaa Tryz.func107 ?_;have w2:0<=(a.length:Int)/\(a.length:Int)<=a.length/\(4:Int)*a.length<=281474976710656/\(a.length:Int)<9223372036854775808:=oM;have w3:a.length=(a.length:Int).toNat:=(Xab _).symm;refine Xaa w2 ?_;refine Zaq Zaa rfl (λ(s:Nat×Int×List Int)=> [(0,ZbC a),(1,ZbC b),(5, .ref 0 0 a.length none),(6, .v (.i .i64) s.2.1),(12, .v (.i .i64) (a.length:Int)),(13, .v (.i .i64) (s.1:Int))]) (λs=> [.row (.i .u32) s.2.2 true])
  (λs=>s.1<=a.length/\ -1<=s.2.1/\s.2.1<=0/\s.2.2.length=a.length/\Wd (s.2.2.take s.1)/\wv (s.2.2.take s.1)+4294967296^s.1*s.2.1=wv (a.take s.1)-wv (b.take s.1)) (λs=>a.length-s.1) ?_ (0,0,List.replicate a.length 0) ?_ ?_
 rintro⟨i,c,out⟩ ⟨hi,ab,ad,hlen,I,j⟩;simp only at hi ab ad hlen I j;refine Xaa (λh=> ?_) (λh=> ?_);have C:i<a.length:=by have:=dT h;simp only at this;omega
 have ae:=ha _ (XaI C);have e1:i64.wrap a[i]=a[i]:=Zap oM oM;have e2:i64.wrap (c+i64.wrap a[i])=c+a[i]:=by rw[e1];exact Zap oM oM
 have ho:i<out.length:=oM;have R: ∀c':Int,Wd ((out.set i (c' % 4294967296)).take (i+1)):=by intro c' x hx;rw[ZcS ho]at hx;rcases XaO.1 hx with hx|hx;exact I x hx;rw[Xav.1 hx];omega
 have wi:i64.wrap ((i:Int)+1)=((i+1:Nat):Int):=Zap oM oM;refine⟨a[i],XaG i,Xac C, ?_⟩;refine Xaa (λh2=> ?_) (λh2=> ?_);have J:i<b.length:=by have:=dT h2;simp only at this;omega
 have af:=hb _ (XaI J);have e3:i64.wrap b[i]=b[i]:=Zap oM oM;have e4:i64.wrap (i64.wrap (c+i64.wrap a[i])-i64.wrap b[i])=c+a[i]-b[i]:=by rw[e2,e3];exact Zap oM oM
 refine⟨b[i],XaG i,Xac J, ?_⟩;refine Xaa ⟨XaG i,by show(i:Int)<(a.length:Int);omega⟩ ?_;refine Exists.intro (out[i]) (Xaa sM ?_);refine Xaa dC ?_;have ec:(c+a[i]-b[i])/4294967296=(i64.wrap (i64.wrap (c+i64.wrap a[i])-i64.wrap b[i])).fdiv (2^min (Int.toNat 32) i64.bits):=by rw[e4,Zz6]
 have er:out.set i ((c+a[i]-b[i]) % 4294967296)=out.set (0+(i:Int).toNat) (u32.wrap (i64.wrap (i64.wrap (c+i64.wrap a[i])-i64.wrap b[i]))):=by rw[e4,Zbm,Xab,Xag]
 refine⟨(i+1,(c+a[i]-b[i])/4294967296,out.set i ((c+a[i]-b[i]) % 4294967296)),⟨C, ?_, ?_, ?_,R _, ?_⟩, ?_, ?_⟩;show-1<=(c+a[i]-b[i])/4294967296;omega;show(c+a[i]-b[i])/4294967296<=0;omega;show(out.set _ _).length=_;simpa using hlen;exact ZvD C ho (Zcu J) rfl j;show a.length-(i+1)<a.length-i;omega;exact eO;have J:b.length<=i:=by have:=dF h2;simp only at this;omega
 have hz:wv (b.take (i+1))=wv (b.take i)+4294967296^i*0:=by rw[Xax oM,Xax J];omega
 refine Xaa ⟨XaG i,by show(i:Int)<(a.length:Int);omega⟩ ?_;refine Exists.intro (out[i]) (Xaa sM ?_);refine Xaa dC ?_;have ec:(c+a[i]-0)/4294967296=(i64.wrap (c+i64.wrap a[i])).fdiv (2^min (Int.toNat 32) i64.bits):=by rw[e2,Zz6,Int.sub_zero]
 have er:out.set i ((c+a[i]-0) % 4294967296)=out.set (0+(i:Int).toNat) (u32.wrap (i64.wrap (c+i64.wrap a[i]))):=by rw[e2,Zbm,Xab,Xag,Int.sub_zero]
 refine⟨(i+1,(c+a[i]-0)/4294967296,out.set i ((c+a[i]-0) % 4294967296)),⟨C, ?_, ?_, ?_,R _, ?_⟩, ?_, ?_⟩;show-1<=(c+a[i]-0)/4294967296;omega;show(c+a[i]-0)/4294967296<=0;omega;show(out.set _ _).length=_;simpa using hlen;exact ZvD C ho hz rfl j;show a.length-(i+1)<a.length-i;omega;exact eO;have he:i=a.length:=by have:=dF h;simp only at this;omega
 subst he;refine Xaa (by show 0+a.length<=out.length;omega) ?_;have hs:sub out 0 a.length=out:=by rw[sub,XaP,Xax oM]
 rw[Xax (by omega:out.length<=a.length)]at I;rw[Xax (by omega:out.length<=a.length),Xa1,Xax aa]at j;have U:=Zbu I;rw[hlen]at U;have hc:c=0:=by rcases(show c=0\/c= -1 by omega)with hc|hc;exact hc;subst hc;generalize(4294967296:Int)^a.length=p at j U;omega
 subst hc;exact⟨out,congrArg ZbC hs,I,hlen,by rw[<-j];simp⟩;exact⟨Xak _,by show(-1:Int)<=0;decide,Xby _,sM,by intro x hx;simp at hx,by simp[wv]⟩;exact eO
end Go.Proofs.YtpdhpbldangmbaaGreatDoor

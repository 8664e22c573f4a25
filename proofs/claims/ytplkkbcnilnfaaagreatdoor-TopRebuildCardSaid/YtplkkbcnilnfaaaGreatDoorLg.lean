/- A network of positive conductances: the sums of its balances, and why its grounded matrix is regular. Plain Lean. -/
import Derived.Test.YtplkkbcnilnfaaaGreatDoorGi
set_option linter.all false
namespace La
section
variable (f t:Nat->Nat) (b:Nat->Rat)
def dlt (k i:Nat):Rat:=(if i=f k then 1 else 0)-(if i=t k then 1 else 0)
def lap (m:Nat):Mx:=λi j=>S m λk=>b k*(dlt f t k i*dlt f t k j)
end
variable {f t:Nat->Nat} {b:Nat->Rat} {n m:Nat}
def Zy5 (n:Nat) (f g:Nat->Rat):S n (λk=>f k-g k)=S n f-S n g:=by induction n with|zero=>rw[S,S,S];grind|succ n j=>rw[S,S,S,j];grind
def Zj2 {n j:Nat} (x:Nat->Rat) (C:j<n):S n (λi=>(if i=j then 1 else 0)*x i)=x j:=by rw[Zll C λk _ I=>by rw[if_neg I];grind,if_pos rfl];grind
def ZD0 {k:Nat} (hf:f k<n) (j:t k<n) (x:Nat->Rat):S n (λi=>dlt f t k i*x i)=x (f k)-x (t k):=by rw[<-Zj2 x hf,<-Zj2 x j,<-Zy5];exact ZaB λi _=>by rw[dlt];grind
def ZB8 (C: ∀k,k<m->f k<n/\t k<n) (x:Nat->Rat) (i:Nat):S n (λj=>lap f t b m i j*x j)=S m λk=>b k*(x (f k)-x (t k))*dlt f t k i:=by
 have J:S n (λj=>lap f t b m i j*x j)=S n λj=>S m λk=>b k*dlt f t k i*(dlt f t k j*x j):=ZaB λj _=>by rw[lap,Rat.mul_comm,<-Zd0];exact ZaB λk _=>by grind
 rw[J,Zom];refine ZaB λk I=> ?_;rw[Zd0,ZD0 (C k I).1 (C k I).2];grind
def Zx4 (C: ∀k,k<m->f k<n/\t k<n) (u x:Nat->Rat):S n (λi=>u i*S n λj=>lap f t b m i j*x j)=S m λk=>b k*((u (f k)-u (t k))*(x (f k)-x (t k))):=by
 have J:S n (λi=>u i*S n λj=>lap f t b m i j*x j)=S n λi=>S m λk=>b k*(x (f k)-x (t k))*(dlt f t k i*u i):=ZaB λi _=>by rw[ZB8 C,<-Zd0];exact ZaB λk _=>by grind
 rw[J,Zom];refine ZaB λk I=> ?_;rw[Zd0,ZD0 (C k I).1 (C k I).2];grind
def ZrL: ∀ {n:Nat} {f:Nat->Rat},(∀k,k<n->0<=f k)->0<=S n f
 |0,_,_=>Rat.le_refl
 |n+1,f,h=>by rw[S];exact Rat.add_nonneg (ZrL λk j=>h k (by omega)) (h n (by omega))
def ZFO: ∀ {n:Nat} {f:Nat->Rat},(∀k,k<n->0<=f k)->S n f=0-> ∀k,k<n->f k=0
 |0,_,_,_,_,h=>absurd h (by omega)
 |n+1,f,h,C,k,j=>by rw[S]at C;have U:=ZrL (n:=n) λk j=>h k (by omega);have h2:=h n (by omega);have I:S n f=0:=(by grind);have J:f n=0:=(by grind);rcases Xa5 k n with R|hg;exact ZFO (λk j=>h k (by omega)) I k R;have:k=n:=(by omega);rw[this];exact J
def Zv2 (x:Rat):0<=x*x:=by rcases Rat.nonneg_total x with h|h;exact Rat.mul_nonneg h h;have:=Rat.mul_nonneg h h;grind
def ZCR {x:Rat} (h:x*x=0):x=0:=(Rat.mul_eq_zero.1 h).elim id id
def Ztq (R: ∀k,k<m->f k<n/\t k<n) (I: ∀k,k<m->0<b k) {x:Nat->Rat} (h: ∀i,i<n->x i=0\/(S n λj=>lap f t b m i j*x j)=0): ∀k,k<m->x (f k)=x (t k):=by have J:=Zx4 (b:=b) R x x;rw[Zej λi hi=>by rcases h i hi with h|h<;>rw[h]<;>grind]at J;intro k C;have U:=ZFO (λk C=>Rat.mul_nonneg (Rat.le_of_lt (I k C)) (Zv2 (x (f k)-x (t k)))) J.symm k C;rcases Rat.mul_eq_zero.1 U with h|h;have:=I k C;grind;have:=ZCR h;grind
def Zui (C: ∀k,k<m->f k<n/\t k<n) {u:Nat->Rat} (hu: ∀k,k<m->u (f k)=u (t k)) (x:Nat->Rat):S n (λi=>u i*S n λj=>lap f t b m i j*x j)=0:=by rw[Zx4 C];exact Zej λk I=>by rw[hu k I];grind
def con (x:Nat) (f:Nat->Nat):Nat->Nat
 |0=>x
 |n+1=>f n
def cmb (m:Nat) (y:Nat->Rat) (ρ:Nat->Nat) (M:Mx):Nat->Rat:=λj=>S m λu=>y u*M (ρ u) j
def Cm (M:Mx) (ρ j:Nat->Nat):Mx:=λa b=>M (ρ a) (j b)
def ZEh {m r k:Nat} {M:Mx} {ρ C:Nat->Nat} {x:Nat->Rat} (h: ∀t,t<m->M r (C t)-cmb m x ρ M (C t)=0):det (m+1) (Cm M (con r ρ) (con k C))=(M r k-cmb m x ρ M k)*det m (Cm M ρ C):=by
 obtain⟨A,I⟩: ∃A,Cm M (con r ρ) (con k C)=A:=⟨_,rfl⟩;have hS: ∀j,S m (λu=>x u*A (u+1) j)=cmb m x ρ M (con k C j):=λj=>by rw[<-I];rfl
 have R:A=ZbL A 0 (λj=>(A 0 j-S m (λu=>x u*A (u+1) j))+1*S m (λu=>x u*A (u+1) j)):=by funext a b;simp only[ZbL];split;rename_i J;subst J;grind;rfl
 rw[I];have U:det (m+1) A=det (m+1) (ZbL A 0 (λj=>A 0 j-S m (λu=>x u*A (u+1) j)))+1*det (m+1) (ZbL A 0 (λj=>S m (λu=>x u*A (u+1) j))):=by(conv=>lhs;rw[R]);exact Zfo A (λj=>A 0 j-S m (λu=>x u*A (u+1) j)) (λj=>S m (λu=>x u*A (u+1) j)) 1 (Nat.succ_pos m)
 have e3:det (m+1) (ZbL A 0 (λj=>S m (λu=>x u*A (u+1) j)))=0:=by rw[ZwL A m x (λu=>A (u+1)) (Nat.succ_pos m)];refine Zej λu hu=> ?_;rw[ZjI (i:=0) (k:=u+1) (by omega) (by omega) (by omega)];grind;intro j _;simp only[ZbL];rw[if_pos trivial,if_neg (by omega)]
 rw[U,e3,det,Zll (j:=0) (Nat.succ_pos m)];rw[ZsW];have e4:det m (mnr A 0)=det m (Cm M ρ C):=ZbP λa b _ _=>by rw[<-I];simp only[mnr,sk,Cm,con,Xa1,if_false]
 have e5:ZbL A 0 (λj=>A 0 j-S m (λu=>x u*A (u+1) j)) 0 0=M r k-cmb m x ρ M k:=by simp only[ZbL,if_pos];rw[hS,<-I];rfl
 rw[e4,e5,sg];grind;intro t ht J;have e6:ZbL A 0 (λj=>A 0 j-S m (λu=>x u*A (u+1) j)) 0 t=0:=by simp only[ZbL,if_pos];rw[hS];obtain⟨t,rfl⟩: ∃s,t=s+1:=⟨t-1,by omega⟩;have:=h t (by omega);rw[<-I];exact this
 rw[e6];grind
def ZqN (L:Rat): ∀ (n:Nat) (M:Mx),det n (λi j=>L*M i j)=L^n*det n M
 |0,M=>by rw[det,det];grind
 |n+1,M=>by rw[det,det,<-Zd0];refine ZaB λk _=> ?_;have:=ZqN L n (mnr M k);have e:mnr (λi j=>L*M i j) k=λi j=>L*mnr M k i j:=rfl;rw[e,this];grind
structure Ints (n W:Nat) (M:Mx) (L:Int) (B:Nat):Prop where
 ne:L≠0
 le:L.natAbs<=B
 z: ∀i j,i<n->j<W-> ∃z:Int,(L:Rat)*M i j=z/\z.natAbs<=B
def ZiC {b:Int} (h:b≠0):(b:Rat)≠0:=λe=>h (by exact_mod_cast e)
def Zwv {x:Rat} (h:x≠0): ∀n:Nat,x^n≠0
 |0=>by rw[Rat.pow_zero];decide
 |n+1=>by rw[Rat.pow_succ];intro j;rcases Rat.mul_eq_zero.1 j with h1|h1;exact Zwv h n h1;exact h h1
def Zpo {m B:Nat} {Z:Mx} {x e:Nat->Rat} (hZ: ∀i j,i<m->j<m-> ∃z:Int,Z i j=z/\z.natAbs<=B) (he: ∀j,j<m-> ∃z:Int,e j=z/\z.natAbs<=B) (hd:det m Z≠0) (h: ∀j,j<m->S m (λt=>x t*Z t j)=e j):
 ∃b:Int,b≠0/\b.natAbs<=bd m B/\ ∀u,u<m-> ∃a:Int,a.natAbs<=bd m B/\x u*b=a:=by
 obtain⟨b,C,J⟩:=ZqH hZ;rw[C]at hd;refine⟨b,λR=>hd (by rw[R];rfl),J,λu hu=> ?_⟩;obtain⟨a,U,e4⟩:=ZqH (B:=B) (n:=m) (M:=ZbL Z u e) λr c hr I=>by simp only[ZbL];split;exact he c I;exact hZ r c hr I
 refine⟨a,e4, ?_⟩;rw[<-C,<-U,ZGc hu h]
def Zr1 {m B D:Nat} {x w:Nat->Rat} {b:Int} (C: ∀u,u<m-> ∃a:Int,a.natAbs<=D/\x u*b=a) (hw: ∀u,u<m-> ∃z:Int,w u=z/\z.natAbs<=B): ∃a:Int,a.natAbs<=m*(B*D)/\S m (λu=>x u*w u)*b=a:=by
 obtain⟨a,j,I⟩:=ZAE (n:=m) (f:=λu=>b*(x u*w u)) (B:=B*D) λu hu=>by obtain⟨p,p1,J⟩:=C u hu;obtain⟨q,R,U⟩:=hw u hu;refine⟨q*p, ?_, ?_⟩;rw[R,Rat.intCast_mul,<-J];grind;rw[Xb0];exact Xbb U p1
 rw[Zd0]at j;exact⟨a,I,by rw[<-j];grind⟩
def Zz8 {n W m i j B:Nat} {M:Mx} {L:Int} {ρ C:Nat->Nat} {x:Nat->Rat} (I:Ints n W M L B) (J: ∀u,u<m->ρ u<n) (R: ∀t,t<m->C t<W) (hd:det m (Cm M ρ C)≠0) (hi:i<n) (hx: ∀t,t<m->M i (C t)-cmb m x ρ M (C t)=0) (hj:j<W):
 ∃a b:Int,b≠0/\M i j-cmb m x ρ M j=a/b/\a.natAbs<=(m+1)*(B*bd m B)/\b.natAbs<=B*bd m B:=by
 have hL:=ZiC I.ne;obtain⟨b,b1,b2,b3⟩:=Zpo (m:=m) (B:=B) (Z:=λa c=>(L:Rat)*M (ρ a) (C c)) (x:=x) (e:=λt=>L*M i (C t)) (λa c ha hc=>I.z _ _ (J a ha) (R c hc)) (λt U=>I.z _ _ hi (R t U))
  (by
   show det m (λa c=>(L:Rat)*Cm M ρ C a c)≠0;rw[ZqN (L:Rat) m (Cm M ρ C)];intro h0;rcases Rat.mul_eq_zero.1 h0 with h1|h1;exact Zwv hL _ h1;exact hd h1)
  (λt U=>by
   have:=hx t U;have e:S m (λu=>x u*((L:Rat)*M (ρ u) (C t)))=L*cmb m x ρ M (C t):=(by rw[cmb,<-Zd0];exact ZaB λu _=>by grind);rw[e];grind)
 obtain⟨c,c1,c2⟩:=Zr1 (m:=m) (B:=B) (w:=λu=>L*M (ρ u) j) b3 λu hu=>I.z _ _ (J u hu) hj;obtain⟨z,z1,z2⟩:=I.z i j hi hj;have e:S m (λu=>x u*((L:Rat)*M (ρ u) j))=L*cmb m x ρ M j:=by rw[cmb,<-Zd0];exact ZaB λu _=>by grind
 rw[e]at c2;have hb:=ZiC b1;refine⟨z*b-c,L*b, ?_, ?_, ?_, ?_⟩;exact Int.mul_ne_zero I.ne b1;rw[Rat.intCast_sub,Rat.intCast_mul,Rat.intCast_mul,<-z1,<-c2];grind;have h1:(z*b-c).natAbs<=(z*b).natAbs+c.natAbs:=by omega
 have h2:(z*b).natAbs<=B*bd m B:=by rw[Xb0];exact Xbb z2 b2
 rw[Nat.succ_mul];omega;rw[Xb0];exact Xbb I.le b2
def Zw2 {n W m j B:Nat} {M:Mx} {L:Int} {ρ C:Nat->Nat} {x:Nat->Rat} (J:Ints n W M L B) (hB:1<=B) (I: ∀u,u<m->ρ u<n) (R: ∀t,t<m->C t<W) (hd:det m (Cm M ρ C)≠0) (hx: ∀t,t<m->cmb m x ρ M (C t)=0\/cmb m x ρ M (C t)=1) (hj:j<W):
 ∃a b:Int,b≠0/\cmb m x ρ M j=a/b/\a.natAbs<=(m+1)*(B*bd m B)/\b.natAbs<=B*bd m B:=by
 have hL:=ZiC J.ne;have U: ∀t,S m (λu=>x u/(L:Rat)*((L:Rat)*M (ρ u) t))=cmb m x ρ M t:=λt=>by rw[cmb];exact ZaB λu _=>by grind
 obtain⟨b,b1,b2,b3⟩:=Zpo (m:=m) (B:=B) (Z:=λa c=>(L:Rat)*M (ρ a) (C c)) (x:=λu=>x u/L) (e:=λt=>cmb m x ρ M (C t)) (λa c ha hc=>J.z _ _ (I a ha) (R c hc)) (λt ht=>by
  rcases hx t ht with h|h;exact⟨0,h,Xap _⟩;exact⟨1,h,hB⟩)
  (by show det m (λa c=>(L:Rat)*Cm M ρ C a c)≠0;rw[ZqN (L:Rat) m (Cm M ρ C)];intro h0;rcases Rat.mul_eq_zero.1 h0 with h1|h1;exact Zwv hL _ h1;exact hd h1) (λt ht=>U _)
 obtain⟨c,c1,c2⟩:=Zr1 (m:=m) (B:=B) (w:=λu=>L*M (ρ u) j) b3 λu hu=>J.z _ _ (I u hu) hj;rw[U]at c2;have hb:=ZiC b1;refine⟨c,b,b1, ?_, ?_, ?_⟩;rw[<-c2];grind;refine XaK c1 (Xbx _ (Nat.le_succ m));exact XaK b2 (Nat.le_mul_of_pos_left _ hB)
def ZHh (x:Rat) (f:Nat->Rat):Nat->Rat
 |0=>x
 |n+1=>f n
def Zq8 (m:Nat) (a:Rat) (x:Nat->Rat) (o:Nat) (ρ:Nat->Nat) (M:Mx) (j:Nat):cmb (m+1) (ZHh a x) (con o ρ) M j=a*M o j+cmb m x ρ M j:=by rw[cmb,ZqA,cmb];rfl
def Zxp (m:Nat) (x y:Nat->Rat) (c:Rat) (ρ:Nat->Nat) (M:Mx) (j:Nat):cmb m (λu=>x u+c*y u) ρ M j=cmb m x ρ M j+c*cmb m y ρ M j:=by rw[cmb,cmb,cmb,<-Zd0,<-ZmA];exact ZaB λu _=>by grind
def ZD7 (m:Nat) (y:Nat->Rat) (c:Rat) (ρ:Nat->Nat) (M:Mx) (j:Nat):cmb m (λu=>c*y u) ρ M j=c*cmb m y ρ M j:=by rw[cmb,cmb,<-Zd0];exact ZaB λu _=>by grind
def kap (p:List Nat) (t:Nat):Nat:=p.getD (p.length-1-t) 0
def ZeU {p:List Nat} {k t:Nat}:(p++ [k]).getD t 0=if t<p.length then p.getD t 0 else if t=p.length then k else 0:=by rw[Xan,Xan];by_cases h:t<p.length;rw[if_pos h,Xam h];rw[if_neg h,Xaz (by omega)];by_cases j:t=p.length;rw[if_pos j,j,XbI];rfl;rw[if_neg j,Xax (by simp;omega)];rfl
def Zzx {p:List Nat} {k t:Nat} (j:t<p.length+1):kap (p++ [k]) t=con k (kap p) t:=by unfold kap;rw[Xas,List.length_singleton,ZeU];cases t with|zero=>rw[if_neg (by omega),if_pos (by omega)];rfl|succ t=>rw[if_pos (by omega),show p.length+1-1-(t+1)=p.length-1-t by omega];rfl
structure Elm (n W:Nat) (M:Mx) (k:Nat) (p:List Nat) (N:Mx):Prop where
 req:REq n W M N
 ech:Ech n k p.length (λt=>p.getD t 0) N
 kinds: ∃ρ:Nat->Nat,(∀u,u<p.length->ρ u<n)/\det p.length (Cm M ρ (kap p))≠0/\
  (∀i,i<p.length-> ∃x,∀j,j<W->N i j=cmb p.length x ρ M j)/\
  (∀i,p.length<=i->i<n-> ∃o x,o<n/\ ∀j,j<W->N i j=M o j-cmb p.length x ρ M j)
def Elm.start {n W:Nat} {M N:Mx} (h: ∀i j,i<n->j<W->M i j=N i j):Elm n W M 0 [] N:=by refine⟨.of_eq h,⟨Xap _,λs t _ h=>absurd h (Xa1 _),λt h=>absurd h (Xa1 _),λt h=>absurd h (Xa1 _),λi t _ h=>absurd h (Xa1 _),λi j _ _ h=>absurd h (Xa1 _)⟩,λu=>u,λu h=>absurd h (Xa1 _), ?_,λi h=>absurd h (Xa1 _), ?_⟩;show det 0 _≠0;rw[det];decide;intro i _ hi;refine⟨i,λ_=>0,hi,λj C=> ?_⟩;show N i j=M i j-cmb 0 _ _ _ _;rw[cmb,S,h i j hi C];grind
def Elm.skip {n W k:Nat} {M N:Mx} {p:List Nat} (h:Elm n W M k p N) (I: ∀i,p.length<=i->i<n->N i k=0):Elm n W M (k+1) p N:=by refine⟨h.req,⟨h.ech.mn,h.ech.inc,λt J=>Nat.lt_succ_of_lt (h.ech.lt t J),h.ech.one,h.ech.col,λi j hi C R=> ?_⟩,h.kinds⟩;by_cases e:j=k;rw[e];exact I i hi C;exact h.ech.low i j hi C (by omega)
def Elm.kap_lt {n W k:Nat} {M N:Mx} {p:List Nat} (h:Elm n W M k p N) {t:Nat} (j:t<p.length):kap p t<k:=h.ech.lt _ (by omega)
def REq.clear {n W m k:Nat} {M N:Mx} (hm:m<n) (h: ∀i j,i<n->j<W->N i j=if i=m then M m j else M i j-M i k*M m j):REq n W M N:=by
 have: ∀t,t<=n->REq n W M (λi j=>if i<t then(if i=m then M m j else M i j-M i k*M m j)else M i j):=by intro t;induction t with|zero=>intro _;exact .of_eq λi j _ _=>by rw[if_neg (Xa1 i)]|succ t U=>intro ht;refine(U (by omega)).trans ?_;by_cases e:t=m;refine .of_eq λi j hi J=> ?_;by_cases C:i<t;rw[if_pos C,if_pos (show i<t+1 by omega)];by_cases I:i=t;rw[if_neg C,if_pos (show i<t+1 by omega),if_pos (show i=m by omega),I,e];rw[if_neg C,if_neg (show ¬i<t+1 by omega)];refine(REq.add (i:=t) (r:=m) (-M t k) (by omega) hm e).trans (.of_eq λi j hi J=> ?_);simp only[ZbL];by_cases I:i=t;subst I;rw[if_pos rfl,if_neg (Nat.lt_irrefl i),if_pos (XaS i),if_neg e];by_cases R:m<i;rw[if_pos R,if_pos trivial];grind;rw[if_neg R];grind;rw[if_neg I];by_cases C:i<t;rw[if_pos C,if_pos (show i<t+1 by omega)];rw[if_neg C,if_neg (show ¬i<t+1 by omega)]
 exact(this n (Xag n)).trans (.of_eq λi j hi J=>by rw[if_pos hi,h i j hi J])
def Elm.step {n W k q:Nat} {M N N':Mx} {p:List Nat} (h:Elm n W M k p N) (hq:p.length<=q) (ae:q<n) (hk:k<W) (hd:N q k≠0)
 (hN: ∀i j,i<n->j<W->N' i j=if i=p.length then N q j/N q k else swR N p.length q i j-swR N p.length q i k*(N q j/N q k)):Elm n W M (k+1) (p++ [k]) N':=by
 have aa:p.length<n:=Nat.lt_of_le_of_lt hq ae;have hl:(p++ [k]).length=p.length+1:=by rw[Xas];rfl
 have af: ∀j,swR N p.length q p.length j=N q j:=λj=>if_pos rfl
 have C: ∀i j,i<p.length->swR N p.length q i j=N i j:=λi j hi=>by simp only[swR];rw[if_neg (by omega),if_neg (by omega)]
 have R: ∀i,p.length<i->i<n-> ∃i',p.length<=i'/\i'<n/\ ∀j,swR N p.length q i j=N i' j:=λi hi U=>by by_cases e:i=q;exact⟨p.length,Xag _,aa,λj=>by simp only[swR];rw[if_neg (by omega),if_pos e]⟩;exact⟨i,by omega,U,λj=>by simp only[swR];rw[if_neg (by omega),if_neg e]⟩
 have low:=h.ech.low;have I: ∀j,j<k->N q j=0:=λj J=>low q j hq ae J
 have ag:N q k/N q k=1:=by grind
 refine⟨?_, ?_, ?_⟩;refine h.req.trans ((REq.sw (i:=p.length) (r:=q) aa ae).trans ((REq.scale (i:=p.length) (c:=(N q k)⁻¹) aa (by grind)).trans ?_));refine REq.clear (m:=p.length) (k:=k) aa λi j hi J=> ?_;rw[hN i j hi J];by_cases e:i=p.length;subst e;rw[if_pos rfl,if_pos rfl];simp only[ZbL,if_pos];rw[af];grind;rw[if_neg e,if_neg e];simp only[ZbL,if_pos,if_neg e];rw[af];grind;rw[hl];refine⟨aa, ?_, ?_, ?_, ?_, ?_⟩;intro s t ai ht;rw[ZeU,ZeU,if_pos (show s<p.length by omega)];by_cases e:t<p.length;rw[if_pos e];exact h.ech.inc s t ai e;rw[if_neg e,if_pos (by omega)];exact h.ech.lt s (by omega);intro t ht;rw[ZeU];by_cases e:t<p.length;rw[if_pos e];exact Nat.lt_succ_of_lt (h.ech.lt t e);rw[if_neg e,if_pos (by omega)];exact XaS k;intro t ht;rw[ZeU];by_cases e:t<p.length;rw[if_pos e];have ab:=h.ech.lt t e;rw[hN t _ (by omega) (by omega),if_neg (by omega),C t _ e,h.ech.one t e,I _ ab];grind;have e2:t=p.length:=by omega
 rw[if_neg e,if_pos e2,hN t k (by omega) hk,if_pos e2,ag];intro i t hi ht hit;rw[ZeU];by_cases e:t<p.length;rw[if_pos e];have ab:=h.ech.lt t e;rw[hN i _ hi (by omega)];by_cases e2:i=p.length;rw[if_pos e2,I _ ab];grind;rw[if_neg e2,I _ ab];have:swR N p.length q i (p.getD t 0)=0:=by by_cases e3:i<p.length;rw[C i _ e3];exact h.ech.col i t hi e hit;obtain⟨i',h1,h2,h3⟩:=R i (by omega) hi;rw[h3];exact low i' _ h1 h2 ab
 rw[this];grind;rw[if_neg e,if_pos (by omega),hN i k hi hk,if_neg (by omega),ag];grind;intro i j hi U J;obtain⟨i',h1,h2,h3⟩:=R i (by omega) U;rw[hN i j U (by omega),if_neg (by omega)];by_cases e:j=k;rw[e,ag];grind;rw[h3,low i' j h1 h2 (by omega),I j (by omega)];grind;obtain⟨ρ,aj,ah,hP,hE⟩:=h.kinds;obtain⟨o,xq,ho,ad⟩:=hE q hq ae;rw[hl];refine⟨con o ρ, ?_, ?_, ?_, ?_⟩;intro u hu;cases u with|zero=>exact ho|succ u=>exact aj u (by omega)
 rw[ZbP (N:=Cm M (con o ρ) (con k (kap p))) λi j hi J=>by simp only[Cm];rw[Zzx J]];rw[ZEh (x:=xq) λt ht=>by rw[<-ad _ (by have:=h.kap_lt ht;omega)];exact I _ (h.kap_lt ht)];intro h0;rcases Rat.mul_eq_zero.1 h0 with h1|h1;exact hd (by rw[ad k hk];exact h1);exact ah h1;intro i hi;by_cases e:i=p.length;refine⟨ZHh (N q k)⁻¹ (λu=> -(N q k)⁻¹ *xq u),λj J=> ?_⟩;rw[Zq8,ZD7,hN i j (by omega) J,if_pos e,ad j J];grind;obtain⟨x,hx⟩:=hP i (by omega);refine⟨ZHh (-(N i k/N q k)) (λu=>x u+(N i k/N q k)*xq u),λj J=> ?_⟩;rw[Zq8,Zxp,hN i j (by omega) J,if_neg e,C i j (by omega),C i k (by omega),<-hx j J];rw[show N q j=M o j-cmb p.length xq ρ M j from ad j J];grind;intro i hi U;obtain⟨i',h1,h2,h3⟩:=R i (by omega) U;obtain⟨o',x,ak,hx⟩:=hE i' h1 h2;refine⟨o',ZHh (N i' k/N q k) (λu=>x u+ -(N i' k/N q k)*xq u),ak,λj J=> ?_⟩;rw[Zq8,Zxp,hN i j U J,if_neg (by omega),h3,h3];rw[show N q j=M o j-cmb p.length xq ρ M j from ad j J,show N i' j=M o' j-cmb p.length x ρ M j from hx j J];grind
def Zw9 {B:Nat} (hB:1<=B) {m:Nat}: ∀n,m<=n->bd m B<=bd n B
 |0,h=>by rw[show m=0 by omega];exact Xag _
 |n+1,h=>by by_cases e:m=n+1;rw[e];exact Xag _;refine XaK (Zw9 hB n (by omega)) ?_;rw[bd];exact XaK (Nat.le_mul_of_pos_left _ hB) (Nat.le_mul_of_pos_left _ (Nat.succ_pos n))
def Elm.size {n W k i j B:Nat} {M N:Mx} {p:List Nat} {L:Int} (h:Elm n W M k p N) (hI:Ints n W M L B) (hB:1<=B) (hk:k<=W) (hi:i<n) (hj:j<W): ∃a b:Int,b≠0/\N i j=a/b/\a.natAbs<=(n+1)*(B*bd n B)/\b.natAbs<=(n+1)*(B*bd n B):=by
 obtain⟨ρ,R,I,hP,hE⟩:=h.kinds;have C: ∀t,t<p.length->kap p t<W:=λt J=>by have:=h.kap_lt J;omega
 have mono:B*bd p.length B<=B*bd n B:=Nat.mul_le_mul_left _ (Zw9 hB n h.ech.mn);have fin:(∃a b:Int,b≠0/\N i j=a/b/\a.natAbs<=(p.length+1)*(B*bd p.length B)/\b.natAbs<=B*bd p.length B)-> ∃a b:Int,b≠0/\N i j=a/b/\a.natAbs<=(n+1)*(B*bd n B)/\b.natAbs<=(n+1)*(B*bd n B):=by rintro⟨a,b,U,h2,h3,h4⟩;refine⟨a,b,U,h2,XaK h3 (Xbb (by have:=h.ech.mn;omega) mono),XaK (XaK h4 mono) (Nat.le_mul_of_pos_left _ (Nat.succ_pos n))⟩
 apply fin;by_cases e:i<p.length;obtain⟨x,hx⟩:=hP i e;obtain⟨a,b,U,h2,h3,h4⟩:=Zw2 (j:=j) (x:=x) hI hB R C I (λt J=>by rw[<-hx _ (C t J)];have hs:p.length-1-t<p.length:=(by omega);by_cases e2:i=p.length-1-t;right;have:=h.ech.one _ hs;rw[<-e2]at this;unfold kap;rw[<-e2];exact this;left;exact h.ech.col i _ hi hs e2) hj;exact⟨a,b,U,by rw[hx j hj];exact h2,h3,h4⟩;obtain⟨o,x,ho,hx⟩:=hE i (by omega) hi;obtain⟨a,b,U,h2,h3,h4⟩:=Zz8 (j:=j) (x:=x) hI R C I ho (λt J=>by rw[<-hx _ (C t J)];exact h.ech.low i _ (by omega) hi (h.kap_lt J)) hj;exact⟨a,b,U,by rw[hx j hj];exact h2,h3,h4⟩
def Zfw (n:Nat) (M:Mx):Mx:=λi j=>if j<n then M i j else if j=n+i then 1 else 0
def Zni (n:Nat) (g:Nat->Rat): ∀m,S (n+m) g=S n g+S m λk=>g (n+k)
 |0=>by rw[S];show S n g=_;grind
 |m+1=>by show S (n+m) g+g (n+m)=_;rw[Zni n g m,S];grind
def Zr7 {n i:Nat} (M:Mx) (y:Nat->Rat) (hi:i<n):S (n+n) (λj=>Zfw n M i j*y j)=S n (λj=>M i j*y j)+y (n+i):=by
 rw[Zni,<-Zj2 (λk=>y (n+k)) hi];congr 1;exact ZaB λj C=>by rw[Zfw,if_pos C]
 refine ZaB λk _=> ?_;rw[Zfw,if_neg (by omega)];by_cases h:k=i;rw[if_pos h,if_pos (by omega)];rw[if_neg h,if_neg (by omega)]
section
variable {n:Nat} {p:List Nat} {M N:Mx}
def Zz9 (hE:Elm n (n+n) (Zfw n M) n p N) (C: ∀y:Nat->Rat,(∀i,i<n->S n (λj=>M i j*y j)=0)-> ∀j,j<n->y j=0):p.length=n:=by
 have hm:=hE.ech.mn;apply Decidable.byContradiction;intro aa;have U:Ech n n p.length (λt=>p.getD t 0) λi j=>if j<n then N i j else 0:=
  ⟨hm,hE.ech.inc,hE.ech.lt,λt J=>by rw[if_pos (hE.ech.lt t J)];exact hE.ech.one t J,λi t hi J h=>by rw[if_pos (hE.ech.lt t J)];exact hE.ech.col i t hi J h,λi j h1 R I=>by rw[if_pos I];exact hE.ech.low i j h1 R I⟩
 refine U.many (by omega) (λ_=>0) ⟨λi _=> ?_,λy hy j hj=> ?_⟩;show _=if n<n then N i n else 0
 rw[if_neg (Nat.lt_irrefl n)];exact Zej λk _=>by grind
 have h1: ∀i,i<n->S (n+n) (λj=>N i j*if j<n then y j else 0)=0:=λi hi=>by
   have R:_=if n<n then N i n else 0:=hy i hi
   rw[if_neg (Nat.lt_irrefl n)]at R;have I:S n (λj=>N i j*if j<n then y j else 0)=S n λj=>(if j<n then N i j else 0)*y j:=ZaB λk C=>(by rw[if_pos C,if_pos C]);rw[Zni,Zej (n:=n) (f:=λk=>N i (n+k)*if n+k<n then y (n+k)else 0) λk _=>by rw[if_neg (by omega)];grind,I];rw[show S n (λj=>(if j<n then N i j else 0)*y j)=0 from R];grind
 have I:=(hE.req.sol _).2 h1;refine C y (λi hi=> ?_) j hj;have h4:=I i hi;rw[Zr7 M _ hi,if_neg (by omega),ZaB (g:=λj=>M i j*y j) λk C=>by rw[if_pos C]]at h4;grind
def Zu9 (hE:Elm n (n+n) (Zfw n M) n p N) (hp:p.length=n) (r:Nat->Rat) {i:Nat} (hi:i<n):S n (λj=>M i j*S n λc=>N j (n+c)*r c)=r i:=by
 have C:=hE.ech;rw[hp]at C;have hf:=C.full;have U: ∀i,i<n->S (n+n) (λj=>N i j*if j<n then S n (λc=>N j (n+c)*r c)else-r (j-n))=0:=λi hi=>by rw[Zni,Zll hi λk I J=>by have:=C.col i k hi I λe=>J e.symm;rw[hf k I]at this;rw[this];grind];have R:=C.one i hi;rw[hf i hi]at R;rw[R,if_pos hi,ZaB (n:=n) (f:=λk=>N i (n+k)*if n+k<n then S n (λc=>N (n+k) (n+c)*r c)else-r (n+k-n)) (g:=λc=> -1*(N i (n+c)*r c)) λk _=>by rw[if_neg (by omega),Xbh];grind,Zd0];grind
 have h3:=(hE.req.sol _).2 U i hi;rw[Zr7 M _ hi,if_neg (by omega),Xbh,ZaB (g:=λj=>M i j*S n λc=>N j (n+c)*r c) λk I=>by rw[if_pos I]]at h3;grind
end
structure Grid (N m:Nat) (f t:Nat->Nat) (b:Nat->Rat) (hd:Nat->Bool) (isl:Nat->Nat):Prop where
 ok: ∀k,k<m->f k<N/\t k<N
 pos: ∀k,k<m->0<b k
 flat: ∀x:Nat->Rat,(∀k,k<m->x (f k)=x (t k))-> ∀i,i<N-> ∃h,h<N/\hd h=true/\isl h=isl i/\x i=x h
 one: ∀h h',h<N->h'<N->hd h=true->hd h'=true->isl h=isl h'->h=h'
 same: ∀k,k<m->isl (f k)=isl (t k)
structure Frees (N n:Nat) (F:Nat->Nat) (hd:Nat->Bool):Prop where
 lt: ∀a,a<n->F a<N/\hd (F a)=false
 inj: ∀a b,a<n->b<n->F a=F b->a=b
 all: ∀i,i<N->hd i=false-> ∃a,a<n/\F a=i
def ext (n:Nat) (F:Nat->Nat) (y:Nat->Rat) (i:Nat):Rat:=S n λc=>(if i=F c then 1 else 0)*y c
section
variable {N m n:Nat} {f t F:Nat->Nat} {b:Nat->Rat} {hd:Nat->Bool} {isl:Nat->Nat}
def ZBt (I:Frees N n F hd) {a:Nat} (C:a<n) (y:Nat->Rat):ext n F y (F a)=y a:=by rw[ext,Zll C λk J j=>by rw[if_neg λe=>j (I.inj _ _ C J e).symm];grind,if_pos rfl];grind
def Zs2 (j:Frees N n F hd) {i:Nat} (hi:hd i=true) (y:Nat->Rat):ext n F y i=0:=Zej λk C=>by rw[if_neg λe=>by have:=(j.lt k C).2;rw[<-e,hi]at this;cases this];grind
def ZwW (C:Frees N n F hd) (g y:Nat->Rat):S N (λj=>g j*ext n F y j)=S n λc=>g (F c)*y c:=by
 have I:S N (λj=>g j*ext n F y j)=S N λj=>S n λc=>(if j=F c then 1 else 0)*(g j*y c):=ZaB λj _=>by rw[ext,<-Zd0];exact ZaB λk _=>by grind
 rw[I,Zom];exact ZaB λc J=>Zj2 (λj=>g j*y c) (C.lt c J).1
def ZtX (hG:Grid N m f t b hd isl) (j:Frees N n F hd) (y:Nat->Rat) (h: ∀a,a<n->S n (λc=>lap f t b m (F a) (F c)*y c)=0): ∀c,c<n->y c=0:=by
 have R:=Ztq (x:=ext n F y) hG.ok hG.pos λi hi=>by cases C:hd i with|true=>exact .inl (Zs2 j C y)|false=>obtain⟨a,U,rfl⟩:=j.all i hi C;exact .inr (by rw[ZwW j (lap f t b m (F a))];exact h a U)
 intro c I;obtain⟨k,_,h2,_,J⟩:=hG.flat _ R (F c) (j.lt c I).1;rw[ZBt j I,Zs2 j h2]at J;exact J
def ZEn (hG:Grid N m f t b hd isl) (hF:Frees N n F hd) {θ q:Nat->Rat} (h: ∀a,a<n->S N (λj=>lap f t b m (F a) j*θ j)=q (F a)) (h0: ∀h,h<N->hd h=true->S N (λi=>(if isl i=isl h then 1 else 0)*q i)=0): ∀i,i<N->S N (λj=>lap f t b m i j*θ j)=q i:=by intro i hi;cases J:hd i with|false=>obtain⟨a,R,rfl⟩:=hF.all i hi J;exact h a R|true=>have h1:=Zui (b:=b) hG.ok (u:=λj=>if isl j=isl i then 1 else 0) (λk I=>by simp only[hG.same k I]) θ;have h2:=h0 i hi J;have h3:S N (λj=>(if isl j=isl i then 1 else 0)*(S N (λk=>lap f t b m j k*θ k)-q j))=0:=(by rw[ZaB (g:=λj=>(if isl j=isl i then 1 else 0)*S N (λk=>lap f t b m j k*θ k)-(if isl j=isl i then 1 else 0)*q j) λk _=>by grind,Zy5,h1,h2];grind);rw[Zll hi λk I U=> ?_,if_pos rfl]at h3;grind;cases C:hd k with|true=>rw[if_neg λe=>U (hG.one _ _ I hi C J e)];grind|false=>obtain⟨a,R,rfl⟩:=hF.all k I C;rw[h a R];grind
def Zw4 (N m:Nat) (f t:Nat->Nat) (b q:Nat->Rat) (H:Nat->Nat):Mx:=λi j=>if i<N then(if j<N then lap f t b m i j else q i)else if j=H (i-N)then 1 else 0
def ZtJ {e:Nat} {q θ:Nat->Rat} {H:Nat->Nat} (J: ∀a,a<e->H a<N):Sol (N+e) N (Zw4 N m f t b q H) θ<->(∀i,i<N->S N (λj=>lap f t b m i j*θ j)=q i)/\ ∀a,a<e->θ (H a)=0:=by
 constructor;intro h;refine⟨λi hi=> ?_,λa C=> ?_⟩;have:=h i (by omega);rw[Zw4,if_pos hi,if_neg (Nat.lt_irrefl N)]at this;rw[<-this];exact ZaB λj R=>by rw[Zw4,if_pos hi,if_pos R]
 have:=h (N+a) (by omega);rw[ZaB (g:=λj=>(if j=H a then 1 else 0)*θ j) λj _=>by rw[Zw4,if_neg (by omega),Xbh],Zj2 θ (J a C),Zw4,if_neg (by omega),Xbh,if_neg (by have:=J a C;omega)]at this;exact this;rintro⟨U,h2⟩ i hi;by_cases I:i<N;rw[Zw4,if_pos I,if_neg (Nat.lt_irrefl N),<-U i I];exact ZaB λj R=>by rw[Zw4,if_pos I,if_pos R]
 have C:i-N<e:=by omega
 rw[ZaB (g:=λj=>(if j=H (i-N)then 1 else 0)*θ j) λj _=>by rw[Zw4,if_neg I],Zj2 θ (J _ C),h2 _ C,Zw4,if_neg I,if_neg (by have:=J _ C;omega)]
def ZwH (hG:Grid N m f t b hd isl) {e:Nat} {q θ:Nat->Rat} {H:Nat->Nat} (C: ∀a,a<e->H a<N) (U: ∀i,i<N->hd i=true-> ∃a,a<e/\H a=i)
 (I: ∀i,i<N->S N (λj=>lap f t b m i j*θ j)=q i) (J: ∀a,a<e->θ (H a)=0):ZII (N+e) N (Zw4 N m f t b q H) θ:=by refine⟨(ZtJ C).2 ⟨I,J⟩,λy hy j hj=> ?_⟩;obtain⟨g1,g2⟩:=(ZtJ C).1 hy;have h3:=Ztq (b:=b) (x:=λi=>y i-θ i) hG.ok hG.pos λi hi=> .inr (by rw[ZaB (g:=λj=>lap f t b m i j*y j-lap f t b m i j*θ j) λk _=>by grind,Zy5,I i hi,g1 i hi];grind);obtain⟨k,h4,h5,_,h6⟩:=hG.flat (λi=>y i-θ i) h3 j hj;obtain⟨a,R,rfl⟩:=U k h4 h5;rw[g2 a R,J a R]at h6;grind
end
end La
namespace Go.Proofs.YtplkkbcnilnfaaaGreatDoor
open Ne La
def brD (n:Ne.Net) (k:Nat):Br:=n.brs.getD k ([],[],[],1,1,0,0,0,0)
def fBr (n:Ne.Net) (k:Nat):Nat:=bAt n (brD n k).2.1
def tBr (n:Ne.Net) (k:Nat):Nat:=bAt n (brD n k).2.2.1
def kQ (x:Br):Rat:=Rat.divInt 1000000 (x.2.2.2.1*x.2.2.2.2.1)
def kS (x:Br):Rat:=kQ x*Rat.divInt x.2.2.2.2.2.1 1000
def bBr (n:Ne.Net) (k:Nat):Rat:=kQ (brD n k)
def sBr (n:Ne.Net) (k:Nat):Rat:=kS (brD n k)
def isl (n:Ne.Net) (i:Nat):Nat:=(Zo1 n).getD i 0
def hdB (n:Ne.Net) (i:Nat):Bool:=ZcQ (λa b=>decide (isl n a=isl n b)) i
def Zho (n:Ne.Net):List Nat:=(List.range (Zaf n)).filter λi=> !hdB n i
def frF (n:Ne.Net) (a:Nat):Nat:=(Zho n).getD a 0
def ZA5 {n:Ne.Net} {k:Nat} {x:Br} (h:n.brs[k]? =some x):brD n k=x:=by rw[brD,Xan,h];rfl
def Znd {n:Ne.Net} {k:Nat} (h:k<n.brs.length):n.brs[k]? =some (brD n k)/\brD n k∈n.brs:=by have j:=Xad h;rw[ZA5 j];exact⟨j,XaI h⟩
def Zx6 {n:Ne.Net} {k:Nat} (h:k<n.brs.length):(brB n)[k]? =some (fBr n k,tBr n k):=by rw[brB,XaC,(Znd h).1];rfl
def ZmM {n:Ne.Net} {i:Nat}:hdB n i=true<-> ∀j,j<i->isl n j≠isl n i:=by rw[hdB,ZcQ,Xaw];constructor;intro h j C e;have:=h j (Xba.2 C);rw[e,decide_eq_true rfl]at this;cases this;intro h j C;rw[decide_eq_false (h j (Xba.1 C))];rfl
def ZDh (n:Ne.Net) (i:Nat): ∃h,h<=i/\hdB n h=true/\isl n h=isl n i:=by
 induction i using Nat.strongRecOn with
 |_ i J=>
  by_cases I: ∃j,j<i/\isl n j=isl n i
  obtain⟨j,C,e⟩:=I;obtain⟨h,h1,R,U⟩:=J j C;exact⟨h,by omega,R,U.trans e⟩;exact⟨i,Xag i,ZmM.2 λj C e=>I ⟨j,C,e⟩,rfl⟩
def Zsf {n:Ne.Net} (hf:Fine n) {x:Br} (j:x∈n.brs):(1<=x.2.2.2.1/\x.2.2.2.1<=10000)/\(500<=x.2.2.2.2.1/\x.2.2.2.2.1<=1500)/\(-1000<=x.2.2.2.2.2.1/\x.2.2.2.2.2.1<=1000)/\(0<=x.2.2.2.2.2.2.1/\x.2.2.2.2.2.2.1<=100000):=by have h:=(Zo3 hf j).2.2;rw[Zm1,Bool.not_eq_false']at h;simp only[Xah]at h;exact⟨ZgK h.1.1.1.1.1,ZgK h.1.1.1.1.2,ZgK h.1.1.1.2,ZgK h.1.1.2⟩
def ZFR {n:Ne.Net} (hf:Fine n) {x:Br} (j:x∈n.brs):0<kQ x:=by obtain⟨I,J,_⟩:=Zsf hf j;have C:0<x.2.2.2.1*x.2.2.2.2.1:=Int.mul_pos (by omega) (by omega);rw[kQ,Rat.divInt_eq_div,Rat.div_def];exact Rat.mul_pos (by decide) (Rat.inv_pos.2 (Rat.intCast_pos.2 C))
section
variable {n:Ne.Net} (hf:Fine n)
include hf
theorem ZhP {k:Nat} (h:k<n.brs.length):fBr n k<Zaf n/\tBr n k<Zaf n:=ZrY hf _ (XaF (Zx6 h))
theorem ZHo:Grid (Zaf n) n.brs.length (fBr n) (tBr n) (bBr n) (hdB n) (isl n):=by
 have C: ∀k,k<n.brs.length->Adj (ZcM (-1)) (brB n) (fBr n k) (tBr n k):=λk j=>Zx2.2 ⟨_,XaF (Zx6 j), .inl ⟨rfl,rfl⟩⟩
 refine⟨λk j=>ZhP hf j,λk j=>ZFR hf (Znd j).2,λx hx i hi=> ?_,λh R h1 U I h4 h5=> ?_,λk j=> ?_⟩;obtain⟨h,h1,U,I⟩:=ZDh n i;refine⟨h,by omega,U,I, ?_⟩;have J:=(Zs0 hf (by omega:h<Zaf n) hi).1 I;have: ∀ {u v},Rch (ZcM (-1)) (brB n) u v->x v=x u:=λJ=>by induction J with|refl=>rfl|step _ ha ih=>obtain⟨k,y,g1,_,g3⟩:=ha;have j:k<n.brs.length:=(by have:=(Xae.1 g1).1;rwa[brB,XaG]at this);rw[Zx6 j]at g1;cases g1;have:=hx k j;rcases g3 with⟨rfl,rfl⟩|⟨rfl,rfl⟩;rw[<-ih];exact this.symm;rw[<-ih];exact this
 exact this J;rcases Nat.lt_trichotomy h R with hl|he|hg;exact absurd h5 (ZmM.1 h4 h hl);exact he;exact absurd h5.symm (ZmM.1 I R hg);exact(Zs0 hf (ZhP hf j).1 (ZhP hf j).2).2 ((Rch.refl _).step (C k j))
end
def ZkR {n:Ne.Net} {a:Nat} (j:a<(Zho n).length):(Zho n)[a]? =some (frF n a):=by rw[frF,Xan,Xad j];rfl
def ZfV (n:Ne.Net):Frees (Zaf n) (Zho n).length (frF n) (hdB n):=by refine⟨λa j=> ?_,λa b j I e=> ?_,λi hi J=> ?_⟩;have h:=XaF (ZkR j);rw[Zho,XbF,Xba]at h;exact⟨h.1,by simpa using h.2⟩;refine(List.getElem?_inj j (List.Nodup.sublist List.filter_sublist List.nodup_range)).1 ?_;show(Zho n)[a]? =(Zho n)[b]?;rw[ZkR j,ZkR I,e];have h:i∈Zho n:=XbF.2 ⟨Xba.2 hi,by rw[J];rfl⟩;obtain⟨a,j⟩:=List.getElem?_of_mem h;have C:=(Xae.1 j).1;rw[ZkR C]at j;exact⟨a,C,Xbc j⟩
def ZB1 (n:Ne.Net):(Zho n).length<=Zaf n:=by have:=List.length_filter_le (λi=> !hdB n i) (List.range (Zaf n));rwa[Xbe]at this
def Zi7 (n:Ne.Net) (p:List Int):Nat->Nat->Int
 |0,_=>0
 |v+1,i=>Zi7 n p v i+if i=(Zqk n).getD v 0 then p.getD v 0 else 0
def qB (n:Ne.Net) (p:List Int) (m i:Nat):Rat:=(Zi7 n p n.nodes.length i:Rat)+S m λk=>sBr n k*dlt (fBr n) (tBr n) k i
def ZDW (n:Ne.Net) (m:Nat):Mx:=lap (fBr n) (tBr n) (bBr n) m
def prD (n:Ne.Net):Nat->Nat
 |0=>1000
 |k+1=>prD n k*((brD n k).2.2.2.1*(brD n k).2.2.2.2.1).toNat
def ZmS {n:Ne.Net} {p:List Int} (hp: ∀x∈p,-100000<=x/\x<=100000) (i:Nat): ∀v,(Zi7 n p v i).natAbs<=v*100000
 |0=>by rw[Zi7];decide
 |v+1=>by have h:=ZmS (n:=n) hp i v;have j: -100000<=p.getD v 0/\p.getD v 0<=100000:=(by rw[Xan];cases e:p[v]? with|none=>exact⟨by decide,by decide⟩|some x=>exact hp x (XaF e));rw[Zi7];split<;>omega
def ZrT {n:Ne.Net} (hf:Fine n) (p:List Int) (u:Nat->Rat): ∀v,v<=n.nodes.length->S (Zaf n) (λi=>u i*(Zi7 n p v i:Rat))=S v λj=>u ((Zqk n).getD j 0)*(p.getD j 0:Rat)
 |0,_=>Zej λk _=>by rw[Zi7];show u k*0=0;grind
 |v+1,C=>by rw[S,<-ZrT hf p u v (by omega),<-Zj2 (λi=>u i*(p.getD v 0:Rat)) (ZFx hf (by omega:v<n.nodes.length)),<-ZmA];refine ZaB λi _=> ?_;rw[Zi7,Rat.intCast_add];split;grind;show u i*((Zi7 n p v i:Rat)+0)=_;grind
def Zrh (f t:Nat->Nat) (k i:Nat): ∃e:Int,dlt f t k i=e/\e.natAbs<=1:=by rw[dlt];by_cases j:i=f k<;>by_cases C:i=t k<;>simp only[j,C,if_true,if_false];rw[<-j,if_pos C];exact⟨0,by grind,by decide⟩;rw[<-j,if_neg C];exact⟨1,by grind,by decide⟩;rw[<-C,if_neg j];exact⟨-1,by grind,by decide⟩;exact⟨0,by grind,by decide⟩
section
variable {n:Ne.Net} (hf:Fine n)
include hf
theorem ZsN: ∀ {m k:Nat},m<=n.brs.length->k<m-> ∃c:Nat,prD n m=1000*c*((brD n k).2.2.2.1*(brD n k).2.2.2.2.1).toNat
 |0,_,_,h=>absurd h (by omega)
 |m+1,k,hm,h=>by
  by_cases e:k=m;subst e;have C: ∀j,∃c,prD n j=1000*c:=λj=>by induction j with|zero=>exact⟨1,rfl⟩|succ j J=>obtain⟨c,I⟩:=J;exact⟨c*_,by rw[prD,I,XbX]⟩
  obtain⟨c,I⟩:=C k;exact⟨c,by rw[prD,I]⟩;obtain⟨c,I⟩:=ZsN (m:=m) (by omega) (by omega:k<m);exact⟨c*((brD n m).2.2.2.1*(brD n m).2.2.2.2.1).toNat,by rw[prD,I,XbX,XbX,XbX,XbX,Nat.mul_comm ((brD n k).2.2.2.1*_).toNat]⟩
theorem Zg4: ∀ {m:Nat},m<=n.brs.length->0<prD n m/\prD n m<=1000*15000000^m
 |0,_=>⟨(by decide:0<1000),(by decide:1000<=1000*15000000^0)⟩
 |m+1,h=>by obtain⟨j,C⟩:=Zg4 (m:=m) (by omega);obtain⟨⟨I,a2⟩,⟨J,b2⟩,_⟩:=Zsf hf (Znd (show m<n.brs.length by omega)).2;have R:=Int.mul_le_mul a2 b2 (by omega) (by decide);have U:0<(brD n m).2.2.2.1*(brD n m).2.2.2.2.1:=Int.mul_pos (by omega) (by omega);rw[prD,Nat.pow_succ,<-XbX];exact⟨Nat.mul_pos j (by omega),Xbb C (by omega)⟩
theorem ZC7 {m k:Nat} (hm:m<=n.brs.length) (R:k<m):(∃z:Int,(prD n m:Rat)*bBr n k=z/\z.natAbs<=2000*prD n m)/\ ∃z:Int,(prD n m:Rat)*sBr n k=z/\z.natAbs<=2000*prD n m:=by
 obtain⟨c,C⟩:=ZsN hf hm R;obtain⟨⟨U,a2⟩,⟨b1,b2⟩,⟨s1,s2⟩,_⟩:=Zsf hf (Znd (show k<n.brs.length by omega)).2;have h3:=Int.mul_le_mul U b1 (by decide) (by omega);obtain⟨D,hD⟩: ∃D,(brD n k).2.2.2.1*(brD n k).2.2.2.2.1=D:=⟨_,rfl⟩;rw[hD]at C h3;have I:(D.toNat:Int)=D:=Int.toNat_of_nonneg (by omega);have h0:((D:Int):Rat)≠0:=ZiC (by omega);have hL:(prD n m:Rat)=1000*(c:Rat)*(D:Rat):=by rw[C,Rat.natCast_mul,Rat.natCast_mul,<-Rat.intCast_natCast D.toNat,I];rfl
 have h5:500*(1000*c)<=prD n m:=by rw[C,Nat.mul_comm 500];exact Xbb (Xag _) (by omega)
 have J:(prD n m:Rat)*bBr n k=1000*(c:Rat)*1000000:=by rw[bBr,kQ,hD,hL,Rat.divInt_eq_div];have j:((1000000:Int):Rat)/(D:Rat)*(D:Rat)=((1000000:Int):Rat):=Rat.div_mul_cancel h0;generalize((1000000:Int):Rat)/(D:Rat)=x at j;rw[show(1000*(c:Rat)*(D:Rat))*x=1000*(c:Rat)*(x*D)by grind,j];rfl
 refine⟨⟨((1000*c*1000000:Nat):Int), ?_, ?_⟩,⟨(c*1000000:Nat)*(brD n k).2.2.2.2.2.1, ?_, ?_⟩⟩;rw[J,Rat.intCast_natCast,Rat.natCast_mul,Rat.natCast_mul];rfl;rw[XaY];omega;rw[sBr,kS];show(prD n m:Rat)*(bBr n k*_)=_;rw[<-Rat.mul_assoc,J,Rat.divInt_eq_div,Rat.intCast_mul,Rat.intCast_natCast,Rat.natCast_mul];have j:((brD n k).2.2.2.2.2.1:Rat)/((1000:Int):Rat)*((1000:Int):Rat)=((brD n k).2.2.2.2.2.1:Rat):=Rat.div_mul_cancel (by decide);generalize((brD n k).2.2.2.2.2.1:Rat)/((1000:Int):Rat)=x at j;rw[<-j];show 1000*(c:Rat)*1000000*x=(c:Rat)*1000000*(x*1000);grind;rw[Xb0,XaY];have h7:((brD n k).2.2.2.2.2.1).natAbs<=1000:=by omega
 have:=Xbb (Xag (c*1000000)) h7;omega
theorem Zyq {m:Nat} (hm:m<=n.brs.length) (i j:Nat): ∃z:Int,(prD n m:Rat)*ZDW n m i j=z/\z.natAbs<=m*(2000*prD n m):=by rw[ZDW,lap,<-Zd0];refine ZAE λk C=> ?_;obtain⟨⟨z,I,z2⟩,_⟩:=ZC7 hf hm C;obtain⟨e,J,R⟩:=Zrh (fBr n) (tBr n) k i;obtain⟨g,g1,g2⟩:=Zrh (fBr n) (tBr n) k j;refine⟨z*(e*g), ?_, ?_⟩;rw[Rat.intCast_mul,Rat.intCast_mul,<-I,J,g1,Rat.mul_assoc];rw[Xb0,Xb0];have:=Xbb z2 (Xbb R g2);omega
theorem ZIH {p:List Int} (hp: ∀x∈p,-100000<=x/\x<=100000) {m:Nat} (hm:m<=n.brs.length) (i:Nat): ∃z:Int,(prD n m:Rat)*qB n p m i=z/\z.natAbs<=(n.nodes.length*100000+m*2000)*prD n m:=by
 obtain⟨z,j,z2⟩:=ZAE (n:=m) (f:=λk=>(prD n m:Rat)*(sBr n k*dlt (fBr n) (tBr n) k i)) (B:=2000*prD n m) λk C=>by obtain⟨_,z,j,z2⟩:=ZC7 hf hm C;obtain⟨e,I,J⟩:=Zrh (fBr n) (tBr n) k i;refine⟨z*e, ?_, ?_⟩;rw[Rat.intCast_mul,<-j,I,Rat.mul_assoc];rw[Xb0];have:=Xbb z2 J;omega
 rw[Zd0]at j;refine⟨(prD n m:Int)*Zi7 n p n.nodes.length i+z, ?_, ?_⟩;rw[qB,Rat.intCast_add,Rat.intCast_mul,Rat.intCast_natCast,<-j];grind;have U:=Xbb (Xag (prD n m)) (ZmS hp (n:=n) i n.nodes.length);have R:=Int.natAbs_add_le ((prD n m:Int)*Zi7 n p n.nodes.length i) z;rw[Xb0,XaY]at R;rw[Xbv,XbX m,Nat.mul_comm (n.nodes.length*100000)];omega
end
def gM (n:Ne.Net):Mx:=λa c=>ZDW n n.brs.length (frF n a) (frF n c)
def nF (n:Ne.Net):Nat:=(Zho n).length
structure IsTh (n:Ne.Net) (p:List Int) (θ:Nat->Rat):Prop where
 bal: ∀i,i<Zaf n->S (Zaf n) (λj=>ZDW n n.brs.length i j*θ j)=qB n p n.brs.length i
 hd: ∀i,i<Zaf n->hdB n i=true->θ i=0
def ZHm (n:Ne.Net) (p:List Int):Prop:= ∀h,h<Zaf n->hdB n h=true->S n.nodes.length (λv=>(if isl n ((Zqk n).getD v 0)=isl n h then 1 else 0)*(p.getD v 0:Rat))=0
def ZA7 {n:Ne.Net} (hf:Fine n): ∀y:Nat->Rat,(∀a,a<nF n->S (nF n) (λc=>gM n a c*y c)=0)-> ∀c,c<nF n->y c=0:=ZtX (ZHo hf) (ZfV n)
def Zws (n:Ne.Net):List Nat:=(List.range (Zaf n)).filter λi=>hdB n i
def hdF (n:Ne.Net) (a:Nat):Nat:=(Zws n).getD a 0
def nH (n:Ne.Net):Nat:=(Zws n).length
def ZBu {n:Ne.Net} {a:Nat} (j:a<nH n):(Zws n)[a]? =some (hdF n a):=by rw[hdF,Xan,Xad j];rfl
def Zx3 {n:Ne.Net} {a:Nat} (j:a<nH n):hdF n a<Zaf n/\hdB n (hdF n a)=true:=by have h:=XaF (ZBu j);rw[Zws,XbF,Xba]at h;exact h
def refM (n:Ne.Net) (p:List Int):Mx:=Zw4 (Zaf n) n.brs.length (fBr n) (tBr n) (bBr n) (qB n p n.brs.length) (hdF n)
section
variable {n:Ne.Net} (hf:Fine n) {p:List Int}
include hf
theorem ZF5 (I:ZHm n p) {h:Nat} (J:h<Zaf n) (hd:hdB n h=true):S (Zaf n) (λi=>(if isl n i=isl n h then 1 else 0)*qB n p n.brs.length i)=0:=by
 have C:=ZrT hf p (λi=>if isl n i=isl n h then 1 else 0) n.nodes.length (Xag _);rw[I h J hd]at C;have R:S (Zaf n) (λi=>(if isl n i=isl n h then 1 else 0)*S n.brs.length λk=>sBr n k*dlt (fBr n) (tBr n) k i)=0:=by rw[ZaB (g:=λi=>S n.brs.length λk=>sBr n k*(dlt (fBr n) (tBr n) k i*if isl n i=isl n h then 1 else 0)) λi _=>by rw[<-Zd0];exact ZaB λk _=>by grind,Zom];exact Zej λk j=>by rw[Zd0,ZD0 (ZhP hf j).1 (ZhP hf j).2 (λi=>if isl n i=isl n h then 1 else 0)];simp only[(ZHo hf).same k j];grind
 rw[ZaB (g:=λi=>(if isl n i=isl n h then 1 else 0)*(Zi7 n p n.nodes.length i:Rat)+(if isl n i=isl n h then 1 else 0)*S n.brs.length λk=>sBr n k*dlt (fBr n) (tBr n) k i) λi _=>by rw[qB];grind,ZmA,C,R];grind
theorem ZIP (j:ZHm n p) {y:Nat->Rat} (C: ∀a,a<nF n->S (nF n) (λc=>gM n a c*y c)=qB n p n.brs.length (frF n a)):IsTh n p (ext (nF n) (frF n) y):=by refine⟨ZEn (ZHo hf) (ZfV n) (λa I=> ?_) λh J hd=>ZF5 hf j J hd,λi _ hd=>Zs2 (ZfV n) hd y⟩;exact(ZwW (ZfV n) (lap (fBr n) (tBr n) (bBr n) n.brs.length (frF n a)) y).trans (C a I)
theorem Zty {θ:Nat->Rat} (h:IsTh n p θ):ZII (Zaf n+nH n) (Zaf n) (refM n p) θ:=by refine ZwH (ZHo hf) (λa j=>(Zx3 j).1) (λi hi hd=> ?_) h.bal λa j=>h.hd _ (Zx3 j).1 (Zx3 j).2;have hm:i∈Zws n:=XbF.2 ⟨Xba.2 hi,hd⟩;obtain⟨a,j⟩:=List.getElem?_of_mem hm;have C:=(Xae.1 j).1;exact⟨a,C,by have:=(ZBu (n:=n) C).symm.trans j;exact Xbc this⟩
end
def ZDj (n:Ne.Net):Nat:=4000000*prD n n.brs.length
section
variable {n:Ne.Net} (hf:Fine n) {p:List Int}
include hf
theorem ZGe (a c:Nat): ∃z:Int,(prD n n.brs.length:Rat)*gM n a c=z/\z.natAbs<=ZDj n:=by obtain⟨z,j,C⟩:=Zyq hf (Xag n.brs.length) (frF n a) (frF n c);refine⟨z,j,XaK C ?_⟩;rw[<-XbX,ZDj];exact Xbb (by have:=(ZaC hf).2.2.1;omega) (Xag _)
theorem ZEd:Ints (nF n) (nF n+nF n) (Zfw (nF n) (gM n)) (prD n n.brs.length:Int) (ZDj n):=by
 have C:=(Zg4 hf (Xag n.brs.length)).1;have hle:prD n n.brs.length<=ZDj n:=by rw[ZDj];omega
 refine⟨by omega,by rw[XaY];exact hle,λi j hi I=> ?_⟩;rw[Zfw,Rat.intCast_natCast];split;exact ZGe hf i j;split;exact⟨prD n n.brs.length,by rw[Rat.intCast_natCast];grind,by rw[XaY];exact hle⟩;exact⟨0,by show _=(0:Rat);grind,by omega⟩
end
open Go.Tx
def Zkr {α:Type} (z v:α) (s k:Int): ∀l:List (Int×α),ZhU z k (Zru s v l)=if k=s then v else ZhU z k l
 | []=>by rw[Zru,ZhU,ZhU];by_cases h:k=s;rw[if_pos h,h,show(s==s)=true from beq_self_eq_true s];rfl;rw[if_neg h,show(k==s)=false from beq_eq_false_iff_ne.2 h];rfl
 |(q,u)::r=>by rw[Zru];by_cases h:s=q;subst h;rw[show(s==s)=true from beq_self_eq_true s,cond_true,ZhU,ZhU];by_cases h:k=s;rw[if_pos h,h,show(s==s)=true from beq_self_eq_true s];rfl;rw[if_neg h,show(k==s)=false from beq_eq_false_iff_ne.2 h];rfl;rw[show(s==q)=false from beq_eq_false_iff_ne.2 h,cond_false,ZhU,ZhU,Zkr z v s k r];by_cases j:k=q;subst j;rw[show(k==k)=true from beq_self_eq_true k,cond_true,cond_true,if_neg λe=>h e.symm];rw[show(k==q)=false from beq_eq_false_iff_ne.2 j];rfl
def Zu3 (l:List (Int×Int)):Bool:=l.all λe=>decide (e.2=0)
def ZsV {α:Type} (z:α) (k:Int): ∀l:List (Int×α),(∃e∈l,e.1=k/\ZhU z k l=e.2)\/(ZhU z k l=z/\ ∀e∈l,e.1≠k)
 | []=> .inr ⟨rfl,λe h=>absurd h Xav⟩
 |e::r=>by rw[ZhU];by_cases h:k=e.1;exact .inl ⟨e,Xai,h.symm,by rw[h,show(e.1==e.1)=true from beq_self_eq_true e.1];rfl⟩;rw[show(k==e.1)=false from beq_eq_false_iff_ne.2 h,cond_false];rcases ZsV z k r with⟨x,j,C,I⟩|⟨j,C⟩;exact .inl ⟨x,Xaj _ j,C,I⟩;refine .inr ⟨j,λx hx=> ?_⟩;rcases Xau.1 hx with rfl|hx;exact λe=>h e.symm;exact C x hx
def Nod {α:Type}:List (Int×α)->Prop
 | []=>True
 |e::r=>(∀x∈r,x.1≠e.1)/\Nod r
def Zwx {α:Type} {s:Int} {v:α}: ∀ {l:List (Int×α)},Nod l->Nod (Zru s v l)/\ ∀x∈Zru s v l,x.1=s\/ ∃y∈l,y.1=x.1
 | [],_=>⟨⟨λx h=>absurd h Xav,trivial⟩,λx h=> .inl (by rw[Xat.1 h])⟩
 |e::r,h=>by obtain⟨J,I⟩:=Zwx (s:=s) (v:=v) h.2;rw[Zru];cases j:(s==e.1)with|true=>(have j:=eq_of_beq j;rw[cond_true];refine⟨⟨λx hx=>by rw[j];exact h.1 x hx,h.2⟩,λx hx=> ?_⟩;rcases Xau.1 hx with rfl|hx;exact .inl rfl;exact .inr ⟨x,Xaj _ hx,rfl⟩)|false=>have j:=beq_eq_false_iff_ne.1 j;rw[cond_false];refine⟨⟨λx hx=> ?_,J⟩,λx hx=> ?_⟩;rcases I x hx with e|⟨y,C,e⟩;rw[e];exact j;rw[<-e];exact h.1 y C;rcases Xau.1 hx with rfl|hx;exact .inr ⟨x,Xai,rfl⟩;rcases I x hx with e|⟨y,C,e⟩;exact .inl e;exact .inr ⟨y,Xaj _ C,e⟩
def ZvK {α:Type} (z:α): ∀ {l:List (Int×α)},Nod l-> ∀e∈l,ZhU z e.1 l=e.2
 |x::r,h,e,he=>by rw[ZhU];rcases Xau.1 he with rfl|he;rw[show(e.1==e.1)=true from beq_self_eq_true e.1];rfl;rw[show(e.1==x.1)=false from beq_eq_false_iff_ne.2 (h.1 e he)];exact ZvK z h.2 e he
def ZyQ {l:List (Int×Int)} (h:Nod l):Zu3 l=true<-> ∀k,ZhU 0 k l=0:=by rw[Zu3,Xaw];constructor;intro j k;rcases ZsV 0 k l with⟨e,C,_,I⟩|⟨C,_⟩;rw[I];exact of_decide_eq_true (j e C);exact C;intro j e he;rw[decide_eq_true_eq,<-ZvK 0 h e he];exact j e.1
def iAt (n:Ne.Net) (v:Nat):Nat:=isl n ((Zqk n).getD v 0)
def ZlG (n:Ne.Net) (p:List Int):Nat->List (Int×Int)
 |0=> []
 |v+1=>Zru (iAt n v) (ZhU 0 (iAt n v) (ZlG n p v)+p.getD v 0) (ZlG n p v)
def ZyA (n:Ne.Net) (p:List Int) (k:Int):Nat->Int
 |0=>0
 |v+1=>ZyA n p k v+if k=iAt n v then p.getD v 0 else 0
def Zjv (n:Ne.Net) (p:List Int) (k:Int): ∀v,ZhU 0 k (ZlG n p v)=ZyA n p k v
 |0=>rfl
 |v+1=>by rw[ZlG,ZyA,Zkr];by_cases h:k=iAt n v;rw[if_pos h,if_pos h,h,Zjv n p _ v];rw[if_neg h,if_neg h,Zjv n p k v,Int.add_zero]
def ZrW (n:Ne.Net) (p:List Int): ∀v,Nod (ZlG n p v)
 |0=>trivial
 |v+1=>(Zwx (ZrW n p v)).1
def ZBK (n:Ne.Net) (p:List Int) (k:Nat): ∀v,(ZyA n p k v:Rat)=S v λj=>(if iAt n j=k then 1 else 0)*(p.getD j 0:Rat)
 |0=>rfl
 |v+1=>by rw[ZyA,S,Rat.intCast_add,ZBK n p k v];congr 1;by_cases h:iAt n v=k;rw[if_pos h,if_pos (by rw[h])];grind;rw[if_neg h,if_neg (λe=>h (by omega))];show(0:Rat)=_;grind
def ZCQ {n:Ne.Net} {p:List Int} (h: ∀k:Nat,ZyA n p k n.nodes.length=0):ZHm n p:=λx _ _=>by have:=ZBK n p (isl n x) n.nodes.length;rw[h]at this;exact this.symm
def ZmC (n:Ne.Net):Nat->List (Int×Bool)
 |0=> []
 |i+1=>Zru (isl n i) true (ZmC n i)
def Zpa (n:Ne.Net) (k:Int): ∀i,ZhU false k (ZmC n i)=(List.range i).any λj=>decide (k=isl n j)
 |0=>rfl
 |i+1=>by rw[ZmC,Zkr,List.range_succ,List.any_append,List.any_cons,List.any_nil,Bool.or_false,Zpa n k i];by_cases h:k=isl n i;rw[if_pos h,decide_eq_true h,Bool.or_true];rw[if_neg h,decide_eq_false h,Bool.or_false]
def ZCo (n:Ne.Net) (i:Nat):ZhU false (isl n i) (ZmC n i)= !hdB n i:=by rw[Zpa,Bool.eq_iff_iff,List.any_eq_true,XbJ,<-Bool.not_eq_true,ZmM];constructor;rintro⟨j,C,I⟩ h;exact h j (Xba.1 C) (by have:=of_decide_eq_true I;omega);intro h;apply Classical.byContradiction;intro J;exact h λj R e=>J ⟨j,Xba.2 R,decide_eq_true (by rw[e])⟩
def hcn (n:Ne.Net) (i:Nat):Nat:=((List.range i).filter λj=>hdB n j).length
section
variable {n:Ne.Net} (hf:Fine n)
include hf
end
end Go.Proofs.YtplkkbcnilnfaaaGreatDoor

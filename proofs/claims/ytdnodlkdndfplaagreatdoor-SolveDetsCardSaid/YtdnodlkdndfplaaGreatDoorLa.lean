/-
set_option linter.constructorNameAsVariable false
 Determinants by the first row, rows and columns, the rule of Cramer; regular parts, reduced echelon forms, systems: plain Lean.
-/
namespace La
def S:Nat→(Nat→Rat)→Rat
 |0,_=>0
 |n+1,f=>S n f+f n
theorem Zbe: ∀ {n:Nat} {f g:Nat→Rat},(∀k,k<n→f k=g k)→S n f=S n g
 |0,_,_,_=>rfl
 |n+1,f,g,h=>by rw[S,S,Zbe fun k hk=>h k (by omega),h n (by omega)]
theorem Zji {n:Nat} {f:Nat→Rat} (h: ∀k,k<n→f k=0):S n f=0:=by
 induction n with
 |zero=>rfl
 |succ n ih=>rw[S,ih fun k hk=>h k (by omega),h n (by omega)];grind
theorem ZmU (n:Nat) (f g:Nat→Rat):S n (fun k=>f k+g k)=S n f+S n g:=by
 induction n with
 |zero=>rw[S,S,S];grind
 |succ n ih=>rw[S,S,S,ih];grind
theorem Zhk (n:Nat) (c:Rat) (f:Nat→Rat):S n (fun k=>c*f k)=c*S n f:=by
 induction n with
 |zero=>rw[S,S];grind
 |succ n ih=>rw[S,S,ih];grind
theorem Znv (n:Nat) (f:Nat→Rat):S (n+1) f=f 0+S n (fun k=>f (k+1)):=by
 induction n with
 |zero=>rw[S,S,S];grind
 |succ n ih=>rw[S,ih,S];grind
theorem Zy3 (m n:Nat) (f:Nat→Nat→Rat):S m (fun i=>S n (fun j=>f i j))=S n (fun j=>S m (fun i=>f i j)):=by
 induction m with
 |zero=>exact(Zji fun k _=>rfl).symm
 |succ m ih=>rw[S,ih,←ZmU];rfl
theorem ZmS {n j:Nat} {f:Nat→Rat} (hj:j<n) (h: ∀k,k<n→k≠j→f k=0):S n f=f j:=by
 induction n with
 |zero=>omega
 |succ n ih=>
  rw[S]
  by_cases e:j=n
  ·subst e;rw[Zji fun k hk=>h k (by omega) (by omega)];grind
  ·rw[ih (by omega) fun k hk=>h k (by omega),h n (by omega) (by omega)];grind
theorem Zz8 {n j:Nat} {f:Nat→Rat} (hj:j+1<n) (h: ∀k,k<n→k≠j→k≠j+1→f k=0):S n f=f j+f (j+1):=by
 induction n with
 |zero=>omega
 |succ n ih=>
  rw[S]
  by_cases e:j+1=n
  ·subst e;rw[ZmS (j:=j) (by omega) fun k hk hn=>h k (by omega) hn (by omega)]
  ·rw[ih (by omega) fun k hk=>h k (by omega),h n (by omega) (by omega) (by omega)];grind
def sg:Nat→Rat
 |0=>1
 |n+1=> -sg n
def sk (k j:Nat):Nat:=if j<k then j else j+1
abbrev Mx:=Nat→Nat→Rat
def mnr (M:Mx) (k:Nat):Mx:=fun i j=>M (i+1) (sk k j)
def det:Nat→Mx→Rat
 |0,_=>1
 |n+1,M=>S (n+1) fun k=>sg k*M 0 k*det n (mnr M k)
theorem Zqe {k j n:Nat} (h:j<n):sk k j<n+1:=by unfold sk;split<;>omega
theorem ZaG: ∀ {n:Nat} {M N:Mx},(∀i j,i<n→j<n→M i j=N i j)→det n M=det n N
 |0,_,_,_=>rfl
 |n+1,M,N,h=>by
  rw[det,det]
  refine Zbe fun k hk=> ?_
  rw[h 0 k (by omega) hk,ZaG (M:=mnr M k) (N:=mnr N k) fun i j hi hj=>h (i+1) (sk k j) (by omega) (Zqe hj)]
def mnc (M:Mx) (k:Nat):Mx:=fun i j=>M (sk k i) (j+1)
theorem ZmN: ∀ (n:Nat) (M:Mx),det (n+1) M=S (n+1) fun k=>sg k*M k 0*det n (mnc M k)
 |0,M=>rfl
 |n+1,M=>by
  rw[det,Znv,Znv (n+1) fun k=>sg k*M k 0*det (n+1) (mnc M k)]
  congr 1
  have e1: ∀l,l<n+1→sg (l+1)*M 0 (l+1)*det (n+1) (mnr M (l+1))=S (n+1) fun i=>sg (l+1)*M 0 (l+1)*(sg i*M (i+1) 0*det n (mnc (mnr M (l+1)) i)):=by
   intro l _
   rw[ZmN n,Zhk]
   rfl
  have e2: ∀i,i<n+1→sg (i+1)*M (i+1) 0*det (n+1) (mnc M (i+1))=S (n+1) fun l=>sg (i+1)*M (i+1) 0*(sg l*M 0 (l+1)*det n (mnr (mnc M (i+1)) l)):=by
   intro i _
   rw[det,Zhk]
   rfl
  rw[Zbe e1,Zbe e2,Zy3]
  refine Zbe fun i _=>Zbe fun l _=> ?_
  have e3:mnc (mnr M (l+1)) i=mnr (mnc M (i+1)) l:=by
   funext a b
   simp only[mnc,mnr,sk]
   congr 1<;>(repeat' split)<;>omega
  rw[e3,sg,sg]
  grind
def tr (M:Mx):Mx:=fun i j=>M j i
theorem ZvN: ∀ (n:Nat) (M:Mx),det n (tr M)=det n M
 |0,_=>rfl
 |n+1,M=>by
  rw[ZmN n M,det]
  refine Zbe fun k _=> ?_
  rw[←ZvN n (mnc M k)]
  rfl
def Za8 (M:Mx) (i:Nat) (v:Nat→Rat):Mx:=fun r c=>if r=i then v c else M r c
theorem Zoi (M:Mx) (v:Nat→Rat) (k:Nat):mnr (Za8 M 0 v) k=mnr M k:=by
 funext a b;simp only[mnr,Za8];rw[if_neg (by omega)]
theorem ZuI (M:Mx) (i:Nat) (v:Nat→Rat) (k:Nat):mnr (Za8 M (i+1) v) k=Za8 (mnr M k) i (fun c=>v (sk k c)):=by
 funext a b;simp only[mnr,Za8];by_cases h:a=i
 ·rw[if_pos (by omega),if_pos h]
 ·rw[if_neg (by omega),if_neg h]
theorem Zda: ∀ {n i:Nat} (M:Mx) (u v:Nat→Rat) (c:Rat),i<n→det n (Za8 M i (fun j=>u j+c*v j))=det n (Za8 M i u)+c*det n (Za8 M i v)
 |0,_,_,_,_,_,h=>by omega
 |n+1,0,M,u,v,c,_=>by
  rw[det,det,det,←Zhk,←ZmU]
  refine Zbe fun k _=> ?_
  simp only[Zoi]
  simp only[Za8,if_pos]
  grind
 |n+1,i+1,M,u,v,c,h=>by
  rw[det,det,det,←Zhk,←ZmU]
  refine Zbe fun k _=> ?_
  simp only[ZuI]
  rw[Zda (mnr M k) (fun j=>u (sk k j)) (fun j=>v (sk k j)) c (by omega)]
  simp only[Za8,if_neg (show ¬ (0=i+1)by omega)]
  grind
theorem Zm2: ∀ {n j:Nat} {M:Mx},j+1<n→(∀i,i<n→M i j=M i (j+1))→det n M=0
 |0,_,_,h,_=>by omega
 |n+1,j,M,h,he=>by
  rw[det,Zz8 h]
  ·have e:det n (mnr M j)=det n (mnr M (j+1)):=by
    refine ZaG fun a b ha hb=> ?_
    simp only[mnr,sk]
    by_cases h1:b<j
    ·rw[if_pos h1,if_pos (by omega)]
    ·rw[if_neg h1]
     by_cases h2:b<j+1
     ·rw[if_pos h2,show b=j by omega,he (a+1) (by omega)]
     ·rw[if_neg h2]
   rw[e,he 0 (by omega),sg]
   grind
  ·intro k hk h1 h2
   have:det n (mnr M k)=0:=by
    by_cases h3:k<j
    ·refine Zm2 (j:=j-1) (by omega) fun i hi=> ?_
     simp only[mnr,sk]
     rw[if_neg (by omega),if_neg (by omega),show j-1+1=j by omega]
     exact he (i+1) (by omega)
    ·refine Zm2 (j:=j) (by omega) fun i hi=> ?_
     simp only[mnr,sk]
     rw[if_pos (by omega),if_pos (by omega)]
     exact he (i+1) (by omega)
   rw[this]
   grind
theorem ZrG {n i:Nat} {M:Mx} (h:i+1<n) (he: ∀j,j<n→M i j=M (i+1) j):det n M=0:=by
 rw[←ZvN]
 exact Zm2 h he
theorem Zen (M:Mx) (i:Nat):Za8 M i (M i)=M:=by
 funext a b;simp only[Za8];split
 ·rename_i h;rw[h]
 ·rfl
def swR (M:Mx) (i k:Nat):Mx:=fun r c=>if r=i then M k c else if r=k then M i c else M r c
theorem Zd9 {M:Mx} {i k:Nat} {u v:Nat→Rat} (h:i≠k):Za8 (Za8 M i u) k v=Za8 (Za8 M k v) i u:=by
 funext a b;simp only[Za8]
 by_cases h1:a=i<;>by_cases h2:a=k<;>simp[h1,h2]<;>omega
theorem ZAr {n i k:Nat} (hi:i<n) (hk:k<n) (hik:i≠k) (M:Mx) (u v:Nat→Rat)
 (h0: ∀w,det n (Za8 (Za8 M i w) k w)=0):det n (Za8 (Za8 M i u) k v)= -det n (Za8 (Za8 M i v) k u):=by
 have h1:=h0 (fun j=>u j+1*v j)
 rw[Zda _ _ _ _ hk,Zd9 hik,Zda _ _ _ _ hi,Zd9 hik,Zda _ _ _ _ hi]at h1
 have h2:=h0 u
 have h3:=h0 v
 rw[Zd9 hik]at h2 h3
 rw[Zd9 hik,Zd9 hik (u:=v)]
 grind
theorem Zv2 (M:Mx) {i k:Nat} (h:i≠k):swR M i k=Za8 (Za8 M i (M k)) k (M i):=by
 funext a b;simp only[swR,Za8]
 by_cases h1:a=i
 ·subst h1;rw[if_pos rfl,if_neg h,if_pos rfl]
 ·rw[if_neg h1]
  by_cases h2:a=k
  ·subst h2;rw[if_pos rfl,if_pos rfl]
  ·rw[if_neg h2,if_neg h2,if_neg h1]
theorem Zo1 (M:Mx) {i k:Nat} (_:i≠k):Za8 (Za8 M i (M i)) k (M k)=M:=by
 rw[Zen,Zen]
theorem ZmT: ∀ (d:Nat) {n i k:Nat} {M:Mx},k=i+d+1→k<n→(∀j,j<n→M i j=M k j)→det n M=0
 |0,n,i,k,M,e,hk,he=>by subst e;exact ZrG hk he
 |d+1,n,i,k,M,e,hk,he=>by
  have hs:det n M= -det n (swR M (k-1) k):=by
   have:=ZAr (n:=n) (i:=k-1) (k:=k) (by omega) hk (by omega) M (M (k-1)) (M k) fun w=>by
    refine ZrG (i:=k-1) (by omega) fun j _=> ?_
    simp only[Za8]
    rw[if_neg (by omega),if_pos trivial,if_pos (by omega)]
   rw[Zo1 M (by omega),←Zv2 M (by omega)]at this
   exact this
  rw[hs,ZmT d (i:=i) (k:=k-1) (by omega) (by omega)]
  ·grind
  ·intro j hj
   simp only[swR]
   rw[if_neg (by omega),if_neg (by omega),if_pos trivial]
   exact he j hj
theorem ZeK {n i k:Nat} {M:Mx} (h:i≠k) (hi:i<n) (hk:k<n) (he: ∀j,j<n→M i j=M k j):det n M=0:=by
 by_cases h1:i<k
 ·exact ZmT (k-i-1) (i:=i) (k:=k) (by omega) hk he
 ·exact ZmT (i-k-1) (i:=k) (k:=i) (by omega) hi fun j hj=>(he j hj).symm
theorem Zyn {n i k:Nat} (M:Mx) (h:i≠k) (hi:i<n) (hk:k<n):det n (swR M i k)= -det n M:=by
 have:=ZAr (n:=n) hi hk h M (M k) (M i) fun w=>by
  refine ZeK h hi hk fun j _=> ?_
  simp only[Za8]
  rw[if_neg h,if_pos trivial,if_pos trivial]
 rw[Zo1 M h,←Zv2 M h]at this
 exact this
theorem ZuM {n i k:Nat} (M:Mx) (c:Rat) (h:i≠k) (hi:i<n) (hk:k<n):det n (Za8 M i (fun j=>M i j+c*M k j))=det n M:=by
 have h0:det n (Za8 M i (M k))=0:=by
  refine ZeK (i:=i) (k:=k) h hi hk fun j _=> ?_
  simp only[Za8]
  rw[if_pos trivial,if_neg (fun e=>h e.symm)]
 rw[Zda _ _ _ _ hi,Zen,h0]
 grind
theorem Zl5 {n i:Nat} (M:Mx) (c:Rat) (hi:i<n):det n (Za8 M i (fun j=>c*M i j))=c*det n M:=by
 have:=Zda (n:=n) (i:=i) M (fun _=>0) (M i) c hi
 rw[Zen]at this
 have h0:det n (Za8 M i fun _=>0)=0:=by
  have:=Zda (n:=n) (i:=i) M (fun _=>0) (fun _=>0) 1 hi
  have e:(fun j:Nat=>(0:Rat)+1*0)=fun _=>0:=by funext j;grind
  rw[e]at this
  grind
 rw[h0]at this
 have e:(fun j=>(0:Rat)+c*M i j)=fun j=>c*M i j:=by funext j;grind
 rw[e]at this
 grind
theorem Zud {n i:Nat} {M:Mx} (hi:i<n) (h: ∀j,j<n→M i j=0):det n M=0:=by
 have:=Zl5 (n:=n) M 0 hi
 rw[ZaG (N:=M)]at this
 ·grind
 ·intro a b ha hb
  simp only[Za8]
  split
  ·rename_i e;rw[e,h b hb];grind
  ·rfl
theorem ZsG {n:Nat} {M:Mx} (h: ∀i,0<i→i<n+1→M i 0=0):det (n+1) M=M 0 0*det n (mnr M 0):=by
 rw[ZmN,ZmS (j:=0) (by omega)]
 ·rw[sg]
  have:mnc M 0=mnr M 0:=by funext a b;simp only[mnc,mnr,sk];rw[if_neg (by omega),if_neg (by omega)]
  rw[this];grind
 ·intro k hk h0
  rw[h k (by omega) hk];grind
theorem Zsz {n i:Nat} (M:Mx) (m:Nat) (x:Nat→Rat) (v:Nat→Nat→Rat) (hi:i<n):det n (Za8 M i (fun j=>S m fun t=>x t*v t j))=S m fun t=>x t*det n (Za8 M i (v t)):=by
 induction m with
 |zero=>
  rw[S]
  refine Zud hi fun j _=> ?_
  simp only[Za8];rw[if_pos trivial];rfl
 |succ m ih=>
  rw[S,←ih,←Zda _ _ _ _ hi]
  rfl
theorem Zyo {n i:Nat} {M:Mx} {x b:Nat→Rat} (hi:i<n) (h: ∀j,j<n→(S n fun t=>x t*M t j)=b j):det n (Za8 M i b)=x i*det n M:=by
 rw[ZaG (N:=Za8 M i (fun j=>S n fun t=>x t*M t j)),Zsz M n x M hi,ZmS hi]
 ·rw[Zen]
 ·intro k hk hne
  rw[ZeK (i:=i) (k:=k) (fun e=>hne e.symm) hi hk]
  ·grind
  ·intro j _
   simp only[Za8]
   rw[if_pos trivial,if_neg hne]
 ·intro a c _ hc
  simp only[Za8]
  split
  ·exact(h c hc).symm
  ·rfl
def Zb8 (n k:Nat) (g:Nat→Nat) (M:Mx):Prop:= ∃f:Nat→Nat,(∀i,i<k→f i<n)∧det k (fun i j=>M (f i) (g j))≠0
theorem ZrC {n k:Nat} {g:Nat→Nat} {M N:Mx} (h:Zb8 n k g M) (he: ∀i j,i<n→j<k→M i (g j)=N i (g j)):Zb8 n k g N:=by
 obtain⟨f,h1,h2⟩:=h
 refine⟨f,h1, ?_⟩
 rwa[←ZaG (M:=fun i j=>M (f i) (g j)) (N:=fun i j=>N (f i) (g j)) fun i j hi hj=>he (f i) j (h1 i hi) hj]
theorem Zzg {n k i r:Nat} {g:Nat→Nat} {M:Mx} (hi:i<n) (hr:r<n) (h:Zb8 n k g M):Zb8 n k g (swR M i r):=by
 obtain⟨f,h1,h2⟩:=h
 refine⟨fun t=>if f t=i then r else if f t=r then i else f t,fun t ht=> ?_, ?_⟩
 ·have:=h1 t ht;simp only;split<;>(try split)<;>omega
 ·have e:(fun a j=>M (f a) (g j))=fun a j=>swR M i r (if f a=i then r else if f a=r then i else f a) (g j):=by
   funext a j
   simp only[swR]
   by_cases c1:f a=i
   ·rw[if_pos c1]
    by_cases c2:r=i
    ·rw[if_pos c2,c1,c2]
    ·rw[if_neg c2,if_pos rfl,c1]
   ·rw[if_neg c1]
    by_cases c2:f a=r
    ·rw[if_pos c2,if_pos rfl,c2]
    ·rw[if_neg c2,if_neg c1,if_neg c2]
  rw[e]at h2
  exact h2
theorem Zv1 {n k i r:Nat} {g:Nat→Nat} {M:Mx} {c:Rat} (hr:r<n) (h:Zb8 n k g (Za8 M i (fun j=>M i j+c*M r j))):Zb8 n k g M:=by
 obtain⟨f,h1,h2⟩:=h
 by_cases hex: ∃t,t<k∧f t=i
 ·obtain⟨t,ht,hf⟩:=hex
  have hu: ∀s,s<k→f s=i→s=t:=fun s hs hfs=>by
   apply Decidable.byContradiction
   intro hst
   refine h2 (ZeK hst hs ht fun j _=> ?_)
   simp only[hf,hfs]
  by_cases h0:det k (fun a j=>M (f a) (g j))=0
  ·refine⟨fun s=>if s=t then r else f s,fun s hs=> ?_, ?_⟩
   ·simp only;split
    ·exact hr
    ·exact h1 s hs
   ·intro h3
    apply h2
    have e:det k (fun a j=>Za8 M i (fun j=>M i j+c*M r j) (f a) (g j))=det k (Za8 (fun a j=>M (f a) (g j)) t (fun j=>M i (g j)+c*M r (g j))):=by
     refine ZaG fun a j ha _=> ?_
     simp only[Za8]
     by_cases hat:a=t
     ·subst hat;rw[if_pos hf,if_pos rfl]
     ·rw[if_neg hat,if_neg fun e=>hat (hu a ha e)]
    rw[e,Zda _ _ _ _ ht]
    have e1:det k (Za8 (fun a j=>M (f a) (g j)) t (fun j=>M i (g j)))=0:=by
     rw[←h0]
     refine ZaG fun a j ha _=> ?_
     simp only[Za8]
     split
     ·rename_i hat;subst hat;rw[hf]
     ·rfl
    have e2:det k (Za8 (fun a j=>M (f a) (g j)) t (fun j=>M r (g j)))=0:=by
     rw[←h3]
     refine ZaG fun a j ha _=> ?_
     simp only[Za8]
     split<;>rfl
    rw[e1,e2]
    grind
  ·exact⟨f,h1,h0⟩
 ·refine⟨f,h1, ?_⟩
  rwa[ZaG (N:=fun a j=>M (f a) (g j)) fun a j ha _=>by
   simp only[Za8]
   rw[if_neg fun e=>hex ⟨a,ha,e⟩]]at h2
theorem ZoZ {n k i:Nat} {g:Nat→Nat} {M:Mx} {c:Rat} (h:Zb8 n k g (Za8 M i (fun j=>c*M i j))):Zb8 n k g M:=by
 obtain⟨f,h1,h2⟩:=h
 by_cases hex: ∃t,t<k∧f t=i
 ·obtain⟨t,ht,hf⟩:=hex
  have hu: ∀s,s<k→f s=i→s=t:=fun s hs hfs=>by
   apply Decidable.byContradiction
   intro hst
   refine h2 (ZeK hst hs ht fun j _=> ?_)
   simp only[hf,hfs]
  refine⟨f,h1,fun h0=>h2 ?_⟩
  have:=Zl5 (n:=k) (fun a j=>M (f a) (g j)) c ht
  rw[h0]at this
  rw[show(0:Rat)=c*0 by grind,←this]
  refine ZaG fun a j ha _=> ?_
  simp only[Za8]
  by_cases hat:a=t
  ·subst hat;rw[if_pos hf,if_pos rfl,hf]
  ·rw[if_neg hat,if_neg fun e=>hat (hu a ha e)]
 ·refine⟨f,h1, ?_⟩
  rwa[ZaG (N:=fun a j=>M (f a) (g j)) fun a j ha _=>by
   simp only[Za8]
   rw[if_neg fun e=>hex ⟨a,ha,e⟩]]at h2
structure REq (n W:Nat) (M N:Mx):Prop where
 sol: ∀y:Nat→Rat,(∀i,i<n→S W (fun j=>M i j*y j)=0)↔(∀i,i<n→S W (fun j=>N i j*y j)=0)
 min: ∀k g,(∀j,j<k→g j<W)→(Zb8 n k g M↔Zb8 n k g N)
theorem REq.of_eq {n W:Nat} {M N:Mx} (h: ∀i j,i<n→j<W→M i j=N i j):REq n W M N:=
 ⟨fun y=>⟨fun hh i hi=>by rw[←hh i hi];exact Zbe fun j hj=>by rw[h i j hi hj],fun hh i hi=>by rw[←hh i hi];exact Zbe fun j hj=>by rw[h i j hi hj]⟩,
  fun k g hg=>⟨fun hh=>ZrC hh fun i j hi hj=>h i _ hi (hg j hj),fun hh=>ZrC hh fun i j hi hj=>(h i _ hi (hg j hj)).symm⟩⟩
theorem REq.refl (n W:Nat) (M:Mx):REq n W M M:= .of_eq fun _ _ _ _=>rfl
theorem REq.trans {n W:Nat} {M N K:Mx} (h1:REq n W M N) (h2:REq n W N K):REq n W M K:=
 ⟨fun y=>(h1.sol y).trans (h2.sol y),fun k g hg=>(h1.min k g hg).trans (h2.min k g hg)⟩
theorem ZqH {M:Mx} {i r:Nat}:swR (swR M i r) i r=M:=by
 funext a b;simp only[swR]
 by_cases h1:a=i
 ·subst h1;rw[if_pos rfl]
  by_cases h2:r=a
  ·rw[if_pos h2,h2]
  ·rw[if_neg h2,if_pos trivial]
 ·rw[if_neg h1]
  by_cases h2:a=r
  ·subst h2;rw[if_pos rfl,if_pos trivial]
  ·rw[if_neg h2,if_neg h1,if_neg h2]
theorem ZvX {n W i r:Nat} {M:Mx} {y:Nat→Rat} (hi:i<n) (hr:r<n) (h: ∀i,i<n→S W (fun j=>M i j*y j)=0): ∀t,t<n→S W (fun j=>swR M i r t j*y j)=0:=by
 intro t ht
 simp only[swR]
 by_cases h1:t=i
 ·simp only[if_pos h1];exact h r hr
 ·simp only[if_neg h1]
  by_cases h2:t=r
  ·simp only[if_pos h2];exact h i hi
  ·simp only[if_neg h2];exact h t ht
theorem REq.sw {n W i r:Nat} {M:Mx} (hi:i<n) (hr:r<n):REq n W M (swR M i r):=
 ⟨fun y=>⟨ZvX hi hr,fun h=>by have:=ZvX hi hr h;rwa[ZqH]at this⟩,
  fun k g _=>⟨Zzg hi hr,fun h=>by have:=Zzg hi hr h;rwa[ZqH]at this⟩⟩
theorem Zli {M:Mx} {i:Nat} {u v:Nat→Rat}:Za8 (Za8 M i u) i v=Za8 M i v:=by
 funext a b;simp only[Za8];split<;>rfl
theorem ZsL {n W i r:Nat} {M:Mx} {y:Nat→Rat} {c:Rat} (hi:i<n) (hr:r<n) (h: ∀i,i<n→S W (fun j=>M i j*y j)=0): ∀t,t<n→S W (fun j=>Za8 M i (fun j=>M i j+c*M r j) t j*y j)=0:=by
 intro t ht
 simp only[Za8]
 by_cases h1:t=i
 ·simp only[if_pos h1]
  rw[Zbe (g:=fun j=>M i j*y j+c*(M r j*y j)) fun k _=>by grind,ZmU,Zhk,h i hi,h r hr]
  grind
 ·simp only[if_neg h1];exact h t ht
theorem Zpm {M:Mx} {i r:Nat} {c:Rat} (hne:i≠r):M=Za8 (Za8 M i (fun j=>M i j+c*M r j)) i (fun j=>Za8 M i (fun j=>M i j+c*M r j) i j+ -c*Za8 M i (fun j=>M i j+c*M r j) r j):=by
 rw[Zli]
 funext a b;simp only[Za8]
 split
 ·rename_i h;subst h;rw[if_pos trivial,if_neg fun e=>hne e.symm];grind
 ·rfl
theorem REq.add {n W i r:Nat} {M:Mx} (c:Rat) (hi:i<n) (hr:r<n) (hne:i≠r):REq n W M (Za8 M i (fun j=>M i j+c*M r j)):=
 ⟨fun y=>⟨ZsL hi hr,fun h=>by have:=ZsL (c:= -c) hi hr h;rwa[←Zpm hne]at this⟩,
  fun k g _=>⟨fun h=>Zv1 (c:= -c) hr (by rwa[←Zpm hne]),Zv1 hr⟩⟩
theorem Zjy {M:Mx} {i:Nat} {c:Rat} (hc:c≠0):M=Za8 (Za8 M i (fun j=>c*M i j)) i (fun j=>c⁻¹ *Za8 M i (fun j=>c*M i j) i j):=by
 rw[Zli]
 funext a b;simp only[Za8]
 split
 ·rename_i h;subst h;rw[if_pos trivial];grind
 ·rfl
theorem ZmB {n W i:Nat} {M:Mx} {y:Nat→Rat} {c:Rat} (h: ∀i,i<n→S W (fun j=>M i j*y j)=0) (hi:i<n): ∀t,t<n→S W (fun j=>Za8 M i (fun j=>c*M i j) t j*y j)=0:=by
 intro t ht
 simp only[Za8]
 by_cases h1:t=i
 ·simp only[if_pos h1]
  rw[Zbe (g:=fun j=>c*(M i j*y j)) fun k _=>by grind,Zhk,h i hi]
  grind
 ·simp only[if_neg h1];exact h t ht
theorem REq.scale {n W i:Nat} {M:Mx} {c:Rat} (hi:i<n) (hc:c≠0):REq n W M (Za8 M i (fun j=>c*M i j)):=
 ⟨fun y=>⟨fun h=>ZmB h hi,fun h=>by have:=ZmB (c:=c⁻¹) h hi;rwa[←Zjy hc]at this⟩,
  fun k g _=>⟨fun h=>ZoZ (c:=c⁻¹) (i:=i) (by rwa[←Zjy hc]),ZoZ⟩⟩
structure Ech (n c m:Nat) (p:Nat→Nat) (M:Mx):Prop where
 mn:m≤n
 inc: ∀s t,s<t→t<m→p s<p t
 lt: ∀t,t<m→p t<c
 one: ∀t,t<m→M t (p t)=1
 col: ∀i t,i<n→t<m→i≠t→M i (p t)=0
 low: ∀i j,m≤i→i<n→j<c→M i j=0
theorem ZvG: ∀ (k:Nat) {m:Nat} {f:Nat→Nat},m<k→(∀i,i<k→f i<m)→ ∃a b,a<k∧b<k∧a≠b∧f a=f b
 |0,_,_,h,_=>by omega
 |k+1,0,f,_,hf=>by have:=hf 0 (by omega);omega
 |k+1,m+1,f,h,hf=>by
  by_cases hex: ∃a,a<k∧f a=f k
  ·obtain⟨a,ha,e⟩:=hex
   exact⟨a,k,by omega,by omega,by omega,e⟩
  ·obtain⟨a,b,ha,hb,hab,e⟩:=ZvG k (m:=m) (f:=fun i=>if f i<f k then f i else f i-1) (by omega) (fun i hi=>by
    have h1:=hf i (by omega)
    have h2:=hf k (by omega)
    have h3:f i≠f k:=fun e=>hex ⟨i,hi,e⟩
    split<;>omega)
   refine⟨a,b,by omega,by omega,hab, ?_⟩
   have h3:f a≠f k:=fun e=>hex ⟨a,ha,e⟩
   have h4:f b≠f k:=fun e=>hex ⟨b,hb,e⟩
   split at e<;>split at e<;>omega
def Sol (n w:Nat) (M:Mx) (x:Nat→Rat):Prop:= ∀i,i<n→S w (fun j=>M i j*x j)=M i w
def ZAF (n w:Nat) (M:Mx) (x:Nat→Rat):Prop:=Sol n w M x∧ ∀y,Sol n w M y→ ∀j,j<w→y j=x j
theorem Ech.none {n w m i:Nat} {p:Nat→Nat} {M:Mx} (h:Ech n w m p M) (hm:m≤i) (hi:i<n) (hz:M i w≠0) (x:Nat→Rat): ¬Sol n w M x:=fun hs=>by
 apply hz
 rw[←hs i hi]
 exact Zji fun k hk=>by rw[h.low i k hm hi hk];grind
theorem Ech.ge {n w m:Nat} {p:Nat→Nat} {M:Mx} (h:Ech n w m p M): ∀t,t<m→t≤p t:=by
 intro t
 induction t with
 |zero=>intro _;omega
 |succ t ih=>intro ht;have:=ih (by omega);have:=h.inc t (t+1) (by omega) ht;omega
theorem Ech.le {n w m:Nat} {p:Nat→Nat} {M:Mx} (h:Ech n w m p M):m≤w:=by
 rcases Nat.eq_zero_or_pos m with h0|h0
 ·omega
 ·have:=h.ge (m-1) (by omega);have:=h.lt (m-1) (by omega);omega
theorem Ech.full {n w:Nat} {p:Nat→Nat} {M:Mx} (h:Ech n w w p M): ∀t,t<w→p t=t:=by
 intro t ht
 have h1:=h.ge t ht
 have h2: ∀d,t+d<w→p t+d≤p (t+d):=by
  intro d
  induction d with
  |zero=>intro _;exact Nat.le_refl _
  |succ d ih=>intro hd;have:=ih (by omega);have:=h.inc (t+d) (t+(d+1)) (by omega) hd;omega
 have h3:=h2 (w-1-t) (by omega)
 have h4:=h.lt (t+(w-1-t)) (by omega)
 omega
theorem Ech.many {n w m:Nat} {p:Nat→Nat} {M:Mx} (h:Ech n w m p M) (hm:m<w) (x:Nat→Rat): ¬ZAF n w M x:=by
 rintro⟨hs,hu⟩
 obtain⟨c,hc,hcp⟩: ∃c,c<w∧ ∀t,t<m→p t≠c:=by
  apply Decidable.byContradiction
  intro hn
  have hex: ∀c,c<w→ ∃t,t<m∧p t=c:=fun c hc=>by
   apply Decidable.byContradiction
   intro h2
   exact hn ⟨c,hc,fun t ht e=>h2 ⟨t,ht,e⟩⟩
  obtain⟨f,hf⟩: ∃f:Nat→Nat,∀c,c<w→f c<m∧p (f c)=c:=
   ⟨fun c=>if h:c<w then Classical.choose (hex c h)else 0,fun c hc=>by simp only[dif_pos hc];exact Classical.choose_spec (hex c hc)⟩
  obtain⟨a,b,ha,hb,hab,e⟩:=ZvG w hm fun c hc=>(hf c hc).1
  apply hab
  rw[← (hf a ha).2,← (hf b hb).2,e]
 let v:Nat→Rat:=fun j=>if j=c then 1 else S m (fun t=>if p t=j then-M t c else 0)
 have hv: ∀i,i<n→S w (fun j=>M i j*v j)=0:=by
  intro i hi
  by_cases him:i<m
  ·have hpi:p i≠c:=hcp i him
   have hvp:v (p i)= -M i c:=by
    show(if p i=c then(1:Rat)else S m (fun t=>if p t=p i then-M t c else 0))=_
    rw[if_neg hpi,ZmS him]
    ·rw[if_pos rfl]
    ·intro k hk hne
     rw[if_neg]
     intro e
     rcases Nat.lt_or_gt_of_ne hne with h1|h1
     ·have:=h.inc k i h1 him;omega
     ·have:=h.inc i k h1 hk;omega
   have hsum:S w (fun j=>M i j*v j)=M i c*v c+M i (p i)*v (p i):=by
    have e1:S w (fun j=>M i j*v j)=S w (fun j=>(if j=c then M i c*v c else 0)+(if j=p i then M i (p i)*v (p i)else 0)):=by
     refine Zbe fun j hj=> ?_
     by_cases c1:j=c
     ·rw[if_pos c1,if_neg (by omega),c1];grind
     ·rw[if_neg c1]
      by_cases c2:j=p i
      ·rw[if_pos c2,c2];grind
      ·rw[if_neg c2]
       have:M i j*v j=0:=by
        by_cases c3: ∃t,t<m∧p t=j
        ·obtain⟨t,ht,e⟩:=c3
         rw[←e,h.col i t hi ht fun e2=>by subst e2;omega];grind
        ·have:v j=0:=by
          show(if j=c then(1:Rat)else S m (fun t=>if p t=j then-M t c else 0))=0
          rw[if_neg c1]
          exact Zji fun t ht=>if_neg fun e=>c3 ⟨t,ht,e⟩
         rw[this];grind
       rw[this];grind
    rw[e1,ZmU,ZmS hc fun k _ hne=>if_neg hne,ZmS (h.lt i him) fun k _ hne=>if_neg hne,if_pos rfl,if_pos rfl]
   rw[hsum,hvp,h.one i him]
   show M i c*(if c=c then(1:Rat)else _)+_=0
   rw[if_pos rfl];grind
  ·exact Zji fun k hk=>by rw[h.low i k (by omega) hi hk];grind
 have h2:=hu (fun j=>x j+v j) (fun i hi=>by
  rw[Zbe (g:=fun j=>M i j*x j+M i j*v j) fun k _=>by grind,ZmU,hs i hi,hv i hi];grind) c hc
 have h3:v c=1:=if_pos rfl
 simp only[h3]at h2
 grind
def bd:Nat→Nat→Nat
 |0,_=>1
 |n+1,B=>(n+1)*(B*bd n B)
theorem Zzj {n:Nat} {f:Nat→Rat} {B:Nat} (h: ∀k,k<n→ ∃z:Int,f k=z∧z.natAbs≤B): ∃z:Int,S n f=z∧z.natAbs≤n*B:=by
 induction n with
 |zero=>exact⟨0,rfl,by simp⟩
 |succ n ih=>
  obtain⟨a,h1,h2⟩:=ih fun k hk=>h k (by omega)
  obtain⟨b,h3,h4⟩:=h n (by omega)
  refine⟨a+b,by rw[S,h1,h3,Rat.intCast_add], ?_⟩
  have:=Int.natAbs_add_le a b
  rw[Nat.succ_mul]
  omega
theorem ZjT {B:Nat}: ∀ {n:Nat} {M:Mx},(∀i j,i<n→j<n→ ∃z:Int,M i j=z∧z.natAbs≤B)→ ∃z:Int,det n M=z∧z.natAbs≤bd n B
 |0,M,_=>⟨1,rfl,Nat.le_refl 1⟩
 |n+1,M,h=>by
  rw[det,bd]
  refine Zzj fun k hk=> ?_
  obtain⟨a,h1,h2⟩:=h 0 k (by omega) hk
  obtain⟨b,h3,h4⟩:=ZjT (M:=mnr M k) (n:=n) fun i j hi hj=>h (i+1) (sk k j) (by omega) (Zqe hj)
  have hs: ∃s:Int,sg k=s∧s.natAbs=1:=by
   clear hk h1 h2 h3 h4
   induction k with
   |zero=>exact⟨1,rfl,rfl⟩
   |succ k ih=>obtain⟨s,e1,e2⟩:=ih;exact⟨-s,by rw[sg,e1,Rat.intCast_neg],by rw[Int.natAbs_neg,e2]⟩
  obtain⟨s,e1,e2⟩:=hs
  refine⟨s*a*b,by rw[e1,h1,h3,Rat.intCast_mul,Rat.intCast_mul], ?_⟩
  rw[Int.natAbs_mul,Int.natAbs_mul,e2,Nat.one_mul]
  exact Nat.mul_le_mul h2 h4
end La

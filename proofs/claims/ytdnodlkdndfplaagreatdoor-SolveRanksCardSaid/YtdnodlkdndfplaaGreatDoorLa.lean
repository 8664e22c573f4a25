/-
set_option linter.constructorNameAsVariable false
 Determinants by the first row, rows and columns, the rule of Cramer; regular parts, reduced echelon forms, systems: plain Lean.
-/
namespace La
def S:Nat→(Nat→Rat)→Rat
 |0,_=>0
 |n+1,f=>S n f+f n
theorem Zbd: ∀ {n:Nat} {f g:Nat→Rat},(∀k,k<n→f k=g k)→S n f=S n g
 |0,_,_,_=>rfl
 |n+1,f,g,h=>by rw[S,S,Zbd fun k hk=>h k (by omega),h n (by omega)]
theorem Zjj {n:Nat} {f:Nat→Rat} (h: ∀k,k<n→f k=0):S n f=0:=by
 induction n with
 |zero=>rfl
 |succ n ih=>rw[S,ih fun k hk=>h k (by omega),h n (by omega)];grind
theorem Znb (n:Nat) (f g:Nat→Rat):S n (fun k=>f k+g k)=S n f+S n g:=by
 induction n with
 |zero=>rw[S,S,S];grind
 |succ n ih=>rw[S,S,S,ih];grind
theorem Zhx (n:Nat) (c:Rat) (f:Nat→Rat):S n (fun k=>c*f k)=c*S n f:=by
 induction n with
 |zero=>rw[S,S];grind
 |succ n ih=>rw[S,S,ih];grind
theorem Zny (n:Nat) (f:Nat→Rat):S (n+1) f=f 0+S n (fun k=>f (k+1)):=by
 induction n with
 |zero=>rw[S,S,S];grind
 |succ n ih=>rw[S,ih,S];grind
theorem ZzV (m n:Nat) (f:Nat→Nat→Rat):S m (fun i=>S n (fun j=>f i j))=S n (fun j=>S m (fun i=>f i j)):=by
 induction m with
 |zero=>exact(Zjj fun k _=>rfl).symm
 |succ m ih=>rw[S,ih,←Znb];rfl
theorem ZnH {n j:Nat} {f:Nat→Rat} (hj:j<n) (h: ∀k,k<n→k≠j→f k=0):S n f=f j:=by
 induction n with
 |zero=>omega
 |succ n ih=>
  rw[S]
  by_cases e:j=n
  ·subst e;rw[Zjj fun k hk=>h k (by omega) (by omega)];grind
  ·rw[ih (by omega) fun k hk=>h k (by omega),h n (by omega) (by omega)];grind
theorem ZAS {n j:Nat} {f:Nat→Rat} (hj:j+1<n) (h: ∀k,k<n→k≠j→k≠j+1→f k=0):S n f=f j+f (j+1):=by
 induction n with
 |zero=>omega
 |succ n ih=>
  rw[S]
  by_cases e:j+1=n
  ·subst e;rw[ZnH (j:=j) (by omega) fun k hk hn=>h k (by omega) hn (by omega)]
  ·rw[ih (by omega) fun k hk=>h k (by omega),h n (by omega) (by omega) (by omega)];grind
def sg:Nat→Rat
 |0=>1
 |n+1=> -sg n
def sk (k j:Nat):Nat:=if j<k then j else j+1
abbrev Mx:=Nat→Nat→Rat
def mnr (M:Mx) (k:Nat):Mx:=fun i j=>M (i+1) (sk k j)
def det:Nat→Mx→Rat
 |0,_=>1
 |n+1,M=>S (n+1) fun k=>sg k*M 0 k*det n (mnr M k)
theorem ZqM {k j n:Nat} (h:j<n):sk k j<n+1:=by unfold sk;split<;>omega
theorem ZaU: ∀ {n:Nat} {M N:Mx},(∀i j,i<n→j<n→M i j=N i j)→det n M=det n N
 |0,_,_,_=>rfl
 |n+1,M,N,h=>by
  rw[det,det]
  refine Zbd fun k hk=> ?_
  rw[h 0 k (by omega) hk,ZaU (M:=mnr M k) (N:=mnr N k) fun i j hi hj=>h (i+1) (sk k j) (by omega) (ZqM hj)]
def mnc (M:Mx) (k:Nat):Mx:=fun i j=>M (sk k i) (j+1)
theorem ZnU: ∀ (n:Nat) (M:Mx),det (n+1) M=S (n+1) fun k=>sg k*M k 0*det n (mnc M k)
 |0,M=>rfl
 |n+1,M=>by
  rw[det,Zny,Zny (n+1) fun k=>sg k*M k 0*det (n+1) (mnc M k)]
  congr 1
  have e1: ∀l,l<n+1→sg (l+1)*M 0 (l+1)*det (n+1) (mnr M (l+1))=S (n+1) fun i=>sg (l+1)*M 0 (l+1)*(sg i*M (i+1) 0*det n (mnc (mnr M (l+1)) i)):=by
   intro l _
   rw[ZnU n,Zhx]
   rfl
  have e2: ∀i,i<n+1→sg (i+1)*M (i+1) 0*det (n+1) (mnc M (i+1))=S (n+1) fun l=>sg (i+1)*M (i+1) 0*(sg l*M 0 (l+1)*det n (mnr (mnc M (i+1)) l)):=by
   intro i _
   rw[det,Zhx]
   rfl
  rw[Zbd e1,Zbd e2,ZzV]
  refine Zbd fun i _=>Zbd fun l _=> ?_
  have e3:mnc (mnr M (l+1)) i=mnr (mnc M (i+1)) l:=by
   funext a b
   simp only[mnc,mnr,sk]
   congr 1<;>(repeat' split)<;>omega
  rw[e3,sg,sg]
  grind
def tr (M:Mx):Mx:=fun i j=>M j i
theorem Zws: ∀ (n:Nat) (M:Mx),det n (tr M)=det n M
 |0,_=>rfl
 |n+1,M=>by
  rw[ZnU n M,det]
  refine Zbd fun k _=> ?_
  rw[←Zws n (mnc M k)]
  rfl
def Zbe (M:Mx) (i:Nat) (v:Nat→Rat):Mx:=fun r c=>if r=i then v c else M r c
theorem Zp3 (M:Mx) (v:Nat→Rat) (k:Nat):mnr (Zbe M 0 v) k=mnr M k:=by
 funext a b;simp only[mnr,Zbe];rw[if_neg (by omega)]
theorem ZuW (M:Mx) (i:Nat) (v:Nat→Rat) (k:Nat):mnr (Zbe M (i+1) v) k=Zbe (mnr M k) i (fun c=>v (sk k c)):=by
 funext a b;simp only[mnr,Zbe];by_cases h:a=i
 ·rw[if_pos (by omega),if_pos h]
 ·rw[if_neg (by omega),if_neg h]
theorem ZdM: ∀ {n i:Nat} (M:Mx) (u v:Nat→Rat) (c:Rat),i<n→det n (Zbe M i (fun j=>u j+c*v j))=det n (Zbe M i u)+c*det n (Zbe M i v)
 |0,_,_,_,_,_,h=>by omega
 |n+1,0,M,u,v,c,_=>by
  rw[det,det,det,←Zhx,←Znb]
  refine Zbd fun k _=> ?_
  simp only[Zp3]
  simp only[Zbe,if_pos]
  grind
 |n+1,i+1,M,u,v,c,h=>by
  rw[det,det,det,←Zhx,←Znb]
  refine Zbd fun k _=> ?_
  simp only[ZuW]
  rw[ZdM (mnr M k) (fun j=>u (sk k j)) (fun j=>v (sk k j)) c (by omega)]
  simp only[Zbe,if_neg (show ¬ (0=i+1)by omega)]
  grind
theorem Zou: ∀ {n j:Nat} {M:Mx},j+1<n→(∀i,i<n→M i j=M i (j+1))→det n M=0
 |0,_,_,h,_=>by omega
 |n+1,j,M,h,he=>by
  rw[det,ZAS h]
  ·have e:det n (mnr M j)=det n (mnr M (j+1)):=by
    refine ZaU fun a b ha hb=> ?_
    simp only[mnr,sk]
    by_cases h1:b<j
    ·rw[if_pos h1,if_pos (by omega)]
    ·rw[if_neg h1]
     by_cases h2:b<j+1
     ·rw[if_pos h2,show b=j by omega,he (a+1) (by omega)]
     ·rw[if_neg h2]
   rw[e,he 0 (by omega),sg]
   grind
  ·intro k hk h1 h2
   have:det n (mnr M k)=0:=by
    by_cases h3:k<j
    ·refine Zou (j:=j-1) (by omega) fun i hi=> ?_
     simp only[mnr,sk]
     rw[if_neg (by omega),if_neg (by omega),show j-1+1=j by omega]
     exact he (i+1) (by omega)
    ·refine Zou (j:=j) (by omega) fun i hi=> ?_
     simp only[mnr,sk]
     rw[if_pos (by omega),if_pos (by omega)]
     exact he (i+1) (by omega)
   rw[this]
   grind
theorem ZrS {n i:Nat} {M:Mx} (h:i+1<n) (he: ∀j,j<n→M i j=M (i+1) j):det n M=0:=by
 rw[←Zws]
 exact Zou h he
theorem Zgb (M:Mx) (i:Nat):Zbe M i (M i)=M:=by
 funext a b;simp only[Zbe];split
 ·rename_i h;rw[h]
 ·rfl
def swR (M:Mx) (i k:Nat):Mx:=fun r c=>if r=i then M k c else if r=k then M i c else M r c
theorem Zeh {M:Mx} {i k:Nat} {u v:Nat→Rat} (h:i≠k):Zbe (Zbe M i u) k v=Zbe (Zbe M k v) i u:=by
 funext a b;simp only[Zbe]
 by_cases h1:a=i<;>by_cases h2:a=k<;>simp[h1,h2]<;>omega
theorem ZBn {n i k:Nat} (hi:i<n) (hk:k<n) (hik:i≠k) (M:Mx) (u v:Nat→Rat)
 (h0: ∀w,det n (Zbe (Zbe M i w) k w)=0):det n (Zbe (Zbe M i u) k v)= -det n (Zbe (Zbe M i v) k u):=by
 have h1:=h0 (fun j=>u j+1*v j)
 rw[ZdM _ _ _ _ hk,Zeh hik,ZdM _ _ _ _ hi,Zeh hik,ZdM _ _ _ _ hi]at h1
 have h2:=h0 u
 have h3:=h0 v
 rw[Zeh hik]at h2 h3
 rw[Zeh hik,Zeh hik (u:=v)]
 grind
theorem ZwI (M:Mx) {i k:Nat} (h:i≠k):swR M i k=Zbe (Zbe M i (M k)) k (M i):=by
 funext a b;simp only[swR,Zbe]
 by_cases h1:a=i
 ·subst h1;rw[if_pos rfl,if_neg h,if_pos rfl]
 ·rw[if_neg h1]
  by_cases h2:a=k
  ·subst h2;rw[if_pos rfl,if_pos rfl]
  ·rw[if_neg h2,if_neg h2,if_neg h1]
theorem ZoG (M:Mx) {i k:Nat} (_:i≠k):Zbe (Zbe M i (M i)) k (M k)=M:=by
 rw[Zgb,Zgb]
theorem Zni: ∀ (d:Nat) {n i k:Nat} {M:Mx},k=i+d+1→k<n→(∀j,j<n→M i j=M k j)→det n M=0
 |0,n,i,k,M,e,hk,he=>by subst e;exact ZrS hk he
 |d+1,n,i,k,M,e,hk,he=>by
  have hs:det n M= -det n (swR M (k-1) k):=by
   have:=ZBn (n:=n) (i:=k-1) (k:=k) (by omega) hk (by omega) M (M (k-1)) (M k) fun w=>by
    refine ZrS (i:=k-1) (by omega) fun j _=> ?_
    simp only[Zbe]
    rw[if_neg (by omega),if_pos trivial,if_pos (by omega)]
   rw[ZoG M (by omega),←ZwI M (by omega)]at this
   exact this
  rw[hs,Zni d (i:=i) (k:=k-1) (by omega) (by omega)]
  ·grind
  ·intro j hj
   simp only[swR]
   rw[if_neg (by omega),if_neg (by omega),if_pos trivial]
   exact he j hj
theorem ZdE {n i k:Nat} {M:Mx} (h:i≠k) (hi:i<n) (hk:k<n) (he: ∀j,j<n→M i j=M k j):det n M=0:=by
 by_cases h1:i<k
 ·exact Zni (k-i-1) (i:=i) (k:=k) (by omega) hk he
 ·exact Zni (i-k-1) (i:=k) (k:=i) (by omega) hi fun j hj=>(he j hj).symm
theorem Zzt {n i k:Nat} (M:Mx) (h:i≠k) (hi:i<n) (hk:k<n):det n (swR M i k)= -det n M:=by
 have:=ZBn (n:=n) hi hk h M (M k) (M i) fun w=>by
  refine ZdE h hi hk fun j _=> ?_
  simp only[Zbe]
  rw[if_neg h,if_pos trivial,if_pos trivial]
 rw[ZoG M h,←ZwI M h]at this
 exact this
theorem ZlB {n i:Nat} (M:Mx) (c:Rat) (hi:i<n):det n (Zbe M i (fun j=>c*M i j))=c*det n M:=by
 have:=ZdM (n:=n) (i:=i) M (fun _=>0) (M i) c hi
 rw[Zgb]at this
 have h0:det n (Zbe M i fun _=>0)=0:=by
  have:=ZdM (n:=n) (i:=i) M (fun _=>0) (fun _=>0) 1 hi
  have e:(fun j:Nat=>(0:Rat)+1*0)=fun _=>0:=by funext j;grind
  rw[e]at this
  grind
 rw[h0]at this
 have e:(fun j=>(0:Rat)+c*M i j)=fun j=>c*M i j:=by funext j;grind
 rw[e]at this
 grind
theorem Zpv {n i:Nat} {M:Mx} (hi:i<n) (h: ∀j,j<n→M i j=0):det n M=0:=by
 have:=ZlB (n:=n) M 0 hi
 rw[ZaU (N:=M)]at this
 ·grind
 ·intro a b ha hb
  simp only[Zbe]
  split
  ·rename_i e;rw[e,h b hb];grind
  ·rfl
theorem ZxQ {n:Nat} {M:Mx} (h: ∀i,0<i→i<n+1→M i 0=0):det (n+1) M=M 0 0*det n (mnr M 0):=by
 rw[ZnU,ZnH (j:=0) (by omega)]
 ·rw[sg]
  have:mnc M 0=mnr M 0:=by funext a b;simp only[mnc,mnr,sk];rw[if_neg (by omega),if_neg (by omega)]
  rw[this];grind
 ·intro k hk h0
  rw[h k (by omega) hk];grind
theorem Zt5 {n i:Nat} (M:Mx) (m:Nat) (x:Nat→Rat) (v:Nat→Nat→Rat) (hi:i<n):det n (Zbe M i (fun j=>S m fun t=>x t*v t j))=S m fun t=>x t*det n (Zbe M i (v t)):=by
 induction m with
 |zero=>
  rw[S]
  refine Zpv hi fun j _=> ?_
  simp only[Zbe];rw[if_pos trivial];rfl
 |succ m ih=>
  rw[S,←ih,←ZdM _ _ _ _ hi]
  rfl
theorem ZyR {n i:Nat} {M:Mx} {x b:Nat→Rat} (hi:i<n) (h: ∀j,j<n→(S n fun t=>x t*M t j)=b j):det n (Zbe M i b)=x i*det n M:=by
 rw[ZaU (N:=Zbe M i (fun j=>S n fun t=>x t*M t j)),Zt5 M n x M hi,ZnH hi]
 ·rw[Zgb]
 ·intro k hk hne
  rw[ZdE (i:=i) (k:=k) (fun e=>hne e.symm) hi hk]
  ·grind
  ·intro j _
   simp only[Zbe]
   rw[if_pos trivial,if_neg hne]
 ·intro a c _ hc
  simp only[Zbe]
  split
  ·exact(h c hc).symm
  ·rfl
def Zbt (n k:Nat) (g:Nat→Nat) (M:Mx):Prop:= ∃f:Nat→Nat,(∀i,i<k→f i<n)∧det k (fun i j=>M (f i) (g j))≠0
theorem ZtS {n k:Nat} {g:Nat→Nat} {M N:Mx} (h:Zbt n k g M) (he: ∀i j,i<n→j<k→M i (g j)=N i (g j)):Zbt n k g N:=by
 obtain⟨f,h1,h2⟩:=h
 refine⟨f,h1, ?_⟩
 rwa[←ZaU (M:=fun i j=>M (f i) (g j)) (N:=fun i j=>N (f i) (g j)) fun i j hi hj=>he (f i) j (h1 i hi) hj]
theorem ZzP {n k i r:Nat} {g:Nat→Nat} {M:Mx} (hi:i<n) (hr:r<n) (h:Zbt n k g M):Zbt n k g (swR M i r):=by
 obtain⟨f,h1,h2⟩:=h
 refine⟨fun t=>if f t=i then r else if f t=r then i else f t,fun t ht=> ?_, ?_⟩
 ·have:=h1 t ht;simp only;split<;>(try split)<;>omega
 ·have e:(fun a j=>M (f a) (g j))=fun a j=>swR M i r (if f a=i then r else if f a=r then i else f a) (g j):=by
   funext a j
   simp only[swR]
   by_cases c1:f a=i
   ·rw[if_pos c1]
    by_cases c2:r=i
    ·rw[if_pos c2,c1,c2]
    ·rw[if_neg c2,if_pos rfl,c1]
   ·rw[if_neg c1]
    by_cases c2:f a=r
    ·rw[if_pos c2,if_pos rfl,c2]
    ·rw[if_neg c2,if_neg c1,if_neg c2]
  rw[e]at h2
  exact h2
theorem Zwx {n k i r:Nat} {g:Nat→Nat} {M:Mx} {c:Rat} (hr:r<n) (h:Zbt n k g (Zbe M i (fun j=>M i j+c*M r j))):Zbt n k g M:=by
 obtain⟨f,h1,h2⟩:=h
 by_cases hex: ∃t,t<k∧f t=i
 ·obtain⟨t,ht,hf⟩:=hex
  have hu: ∀s,s<k→f s=i→s=t:=fun s hs hfs=>by
   apply Decidable.byContradiction
   intro hst
   refine h2 (ZdE hst hs ht fun j _=> ?_)
   simp only[hf,hfs]
  by_cases h0:det k (fun a j=>M (f a) (g j))=0
  ·refine⟨fun s=>if s=t then r else f s,fun s hs=> ?_, ?_⟩
   ·simp only;split
    ·exact hr
    ·exact h1 s hs
   ·intro h3
    apply h2
    have e:det k (fun a j=>Zbe M i (fun j=>M i j+c*M r j) (f a) (g j))=det k (Zbe (fun a j=>M (f a) (g j)) t (fun j=>M i (g j)+c*M r (g j))):=by
     refine ZaU fun a j ha _=> ?_
     simp only[Zbe]
     by_cases hat:a=t
     ·subst hat;rw[if_pos hf,if_pos rfl]
     ·rw[if_neg hat,if_neg fun e=>hat (hu a ha e)]
    rw[e,ZdM _ _ _ _ ht]
    have e1:det k (Zbe (fun a j=>M (f a) (g j)) t (fun j=>M i (g j)))=0:=by
     rw[←h0]
     refine ZaU fun a j ha _=> ?_
     simp only[Zbe]
     split
     ·rename_i hat;subst hat;rw[hf]
     ·rfl
    have e2:det k (Zbe (fun a j=>M (f a) (g j)) t (fun j=>M r (g j)))=0:=by
     rw[←h3]
     refine ZaU fun a j ha _=> ?_
     simp only[Zbe]
     split<;>rfl
    rw[e1,e2]
    grind
  ·exact⟨f,h1,h0⟩
 ·refine⟨f,h1, ?_⟩
  rwa[ZaU (N:=fun a j=>M (f a) (g j)) fun a j ha _=>by
   simp only[Zbe]
   rw[if_neg fun e=>hex ⟨a,ha,e⟩]]at h2
theorem ZoB {n k i:Nat} {g:Nat→Nat} {M:Mx} {c:Rat} (h:Zbt n k g (Zbe M i (fun j=>c*M i j))):Zbt n k g M:=by
 obtain⟨f,h1,h2⟩:=h
 by_cases hex: ∃t,t<k∧f t=i
 ·obtain⟨t,ht,hf⟩:=hex
  have hu: ∀s,s<k→f s=i→s=t:=fun s hs hfs=>by
   apply Decidable.byContradiction
   intro hst
   refine h2 (ZdE hst hs ht fun j _=> ?_)
   simp only[hf,hfs]
  refine⟨f,h1,fun h0=>h2 ?_⟩
  have:=ZlB (n:=k) (fun a j=>M (f a) (g j)) c ht
  rw[h0]at this
  rw[show(0:Rat)=c*0 by grind,←this]
  refine ZaU fun a j ha _=> ?_
  simp only[Zbe]
  by_cases hat:a=t
  ·subst hat;rw[if_pos hf,if_pos rfl,hf]
  ·rw[if_neg hat,if_neg fun e=>hat (hu a ha e)]
 ·refine⟨f,h1, ?_⟩
  rwa[ZaU (N:=fun a j=>M (f a) (g j)) fun a j ha _=>by
   simp only[Zbe]
   rw[if_neg fun e=>hex ⟨a,ha,e⟩]]at h2
structure REq (n W:Nat) (M N:Mx):Prop where
 sol: ∀y:Nat→Rat,(∀i,i<n→S W (fun j=>M i j*y j)=0)↔(∀i,i<n→S W (fun j=>N i j*y j)=0)
 min: ∀k g,(∀j,j<k→g j<W)→(Zbt n k g M↔Zbt n k g N)
theorem REq.of_eq {n W:Nat} {M N:Mx} (h: ∀i j,i<n→j<W→M i j=N i j):REq n W M N:=
 ⟨fun y=>⟨fun hh i hi=>by rw[←hh i hi];exact Zbd fun j hj=>by rw[h i j hi hj],fun hh i hi=>by rw[←hh i hi];exact Zbd fun j hj=>by rw[h i j hi hj]⟩,
  fun k g hg=>⟨fun hh=>ZtS hh fun i j hi hj=>h i _ hi (hg j hj),fun hh=>ZtS hh fun i j hi hj=>(h i _ hi (hg j hj)).symm⟩⟩
theorem REq.refl (n W:Nat) (M:Mx):REq n W M M:= .of_eq fun _ _ _ _=>rfl
theorem REq.trans {n W:Nat} {M N K:Mx} (h1:REq n W M N) (h2:REq n W N K):REq n W M K:=
 ⟨fun y=>(h1.sol y).trans (h2.sol y),fun k g hg=>(h1.min k g hg).trans (h2.min k g hg)⟩
theorem ZrK {M:Mx} {i r:Nat}:swR (swR M i r) i r=M:=by
 funext a b;simp only[swR]
 by_cases h1:a=i
 ·subst h1;rw[if_pos rfl]
  by_cases h2:r=a
  ·rw[if_pos h2,h2]
  ·rw[if_neg h2,if_pos trivial]
 ·rw[if_neg h1]
  by_cases h2:a=r
  ·subst h2;rw[if_pos rfl,if_pos trivial]
  ·rw[if_neg h2,if_neg h1,if_neg h2]
theorem Zwq {n W i r:Nat} {M:Mx} {y:Nat→Rat} (hi:i<n) (hr:r<n) (h: ∀i,i<n→S W (fun j=>M i j*y j)=0): ∀t,t<n→S W (fun j=>swR M i r t j*y j)=0:=by
 intro t ht
 simp only[swR]
 by_cases h1:t=i
 ·simp only[if_pos h1];exact h r hr
 ·simp only[if_neg h1]
  by_cases h2:t=r
  ·simp only[if_pos h2];exact h i hi
  ·simp only[if_neg h2];exact h t ht
theorem REq.sw {n W i r:Nat} {M:Mx} (hi:i<n) (hr:r<n):REq n W M (swR M i r):=
 ⟨fun y=>⟨Zwq hi hr,fun h=>by have:=Zwq hi hr h;rwa[ZrK]at this⟩,
  fun k g _=>⟨ZzP hi hr,fun h=>by have:=ZzP hi hr h;rwa[ZrK]at this⟩⟩
theorem Zms {M:Mx} {i:Nat} {u v:Nat→Rat}:Zbe (Zbe M i u) i v=Zbe M i v:=by
 funext a b;simp only[Zbe];split<;>rfl
theorem ZsY {n W i r:Nat} {M:Mx} {y:Nat→Rat} {c:Rat} (hi:i<n) (hr:r<n) (h: ∀i,i<n→S W (fun j=>M i j*y j)=0): ∀t,t<n→S W (fun j=>Zbe M i (fun j=>M i j+c*M r j) t j*y j)=0:=by
 intro t ht
 simp only[Zbe]
 by_cases h1:t=i
 ·simp only[if_pos h1]
  rw[Zbd (g:=fun j=>M i j*y j+c*(M r j*y j)) fun k _=>by grind,Znb,Zhx,h i hi,h r hr]
  grind
 ·simp only[if_neg h1];exact h t ht
theorem ZpN {M:Mx} {i r:Nat} {c:Rat} (hne:i≠r):M=Zbe (Zbe M i (fun j=>M i j+c*M r j)) i (fun j=>Zbe M i (fun j=>M i j+c*M r j) i j+ -c*Zbe M i (fun j=>M i j+c*M r j) r j):=by
 rw[Zms]
 funext a b;simp only[Zbe]
 split
 ·rename_i h;subst h;rw[if_pos trivial,if_neg fun e=>hne e.symm];grind
 ·rfl
theorem REq.add {n W i r:Nat} {M:Mx} (c:Rat) (hi:i<n) (hr:r<n) (hne:i≠r):REq n W M (Zbe M i (fun j=>M i j+c*M r j)):=
 ⟨fun y=>⟨ZsY hi hr,fun h=>by have:=ZsY (c:= -c) hi hr h;rwa[←ZpN hne]at this⟩,
  fun k g _=>⟨fun h=>Zwx (c:= -c) hr (by rwa[←ZpN hne]),Zwx hr⟩⟩
theorem ZjR {M:Mx} {i:Nat} {c:Rat} (hc:c≠0):M=Zbe (Zbe M i (fun j=>c*M i j)) i (fun j=>c⁻¹ *Zbe M i (fun j=>c*M i j) i j):=by
 rw[Zms]
 funext a b;simp only[Zbe]
 split
 ·rename_i h;subst h;rw[if_pos trivial];grind
 ·rfl
theorem ZlH {n W i:Nat} {M:Mx} {y:Nat→Rat} {c:Rat} (h: ∀i,i<n→S W (fun j=>M i j*y j)=0) (hi:i<n): ∀t,t<n→S W (fun j=>Zbe M i (fun j=>c*M i j) t j*y j)=0:=by
 intro t ht
 simp only[Zbe]
 by_cases h1:t=i
 ·simp only[if_pos h1]
  rw[Zbd (g:=fun j=>c*(M i j*y j)) fun k _=>by grind,Zhx,h i hi]
  grind
 ·simp only[if_neg h1];exact h t ht
theorem REq.scale {n W i:Nat} {M:Mx} {c:Rat} (hi:i<n) (hc:c≠0):REq n W M (Zbe M i (fun j=>c*M i j)):=
 ⟨fun y=>⟨fun h=>ZlH h hi,fun h=>by have:=ZlH (c:=c⁻¹) h hi;rwa[←ZjR hc]at this⟩,
  fun k g _=>⟨fun h=>ZoB (c:=c⁻¹) (i:=i) (by rwa[←ZjR hc]),ZoB⟩⟩
structure Ech (n c m:Nat) (p:Nat→Nat) (M:Mx):Prop where
 mn:m≤n
 inc: ∀s t,s<t→t<m→p s<p t
 lt: ∀t,t<m→p t<c
 one: ∀t,t<m→M t (p t)=1
 col: ∀i t,i<n→t<m→i≠t→M i (p t)=0
 low: ∀i j,m≤i→i<n→j<c→M i j=0
theorem Ztc: ∀ {n:Nat} {M:Mx},(∀i j,i<n→j<n→M i j=if i=j then 1 else 0)→det n M=1
 |0,_,_=>rfl
 |n+1,M,h=>by
  rw[ZxQ fun i h0 hi=>by rw[h i 0 hi (by omega),if_neg (by omega)],h 0 0 (by omega) (by omega),if_pos rfl,Ztc]
  ·grind
  ·intro i j hi hj
   simp only[mnr,sk]
   rw[if_neg (by omega),h (i+1) (j+1) (by omega) (by omega)]
   by_cases e:i=j
   ·rw[if_pos e,if_pos (by omega)]
   ·rw[if_neg e,if_neg (by omega)]
theorem Ech.minor {n c m:Nat} {p:Nat→Nat} {M:Mx} (h:Ech n c m p M):Zbt n m p M:=by
 refine⟨id,fun i hi=>Nat.lt_of_lt_of_le hi h.mn, ?_⟩
 rw[Ztc]
 ·decide
 ·intro i j hi hj
  show M i (p j)=_
  by_cases e:i=j
  ·subst e;rw[if_pos rfl,h.one i hi]
  ·rw[if_neg e,h.col i j (by have:=h.mn;omega) hj e]
theorem Zs0: ∀ (k:Nat) {m:Nat} {f:Nat→Nat},m<k→(∀i,i<k→f i<m)→ ∃a b,a<k∧b<k∧a≠b∧f a=f b
 |0,_,_,h,_=>by omega
 |k+1,0,f,_,hf=>by have:=hf 0 (by omega);omega
 |k+1,m+1,f,h,hf=>by
  by_cases hex: ∃a,a<k∧f a=f k
  ·obtain⟨a,ha,e⟩:=hex
   exact⟨a,k,by omega,by omega,by omega,e⟩
  ·obtain⟨a,b,ha,hb,hab,e⟩:=Zs0 k (m:=m) (f:=fun i=>if f i<f k then f i else f i-1) (by omega) (fun i hi=>by
    have h1:=hf i (by omega)
    have h2:=hf k (by omega)
    have h3:f i≠f k:=fun e=>hex ⟨i,hi,e⟩
    split<;>omega)
   refine⟨a,b,by omega,by omega,hab, ?_⟩
   have h3:f a≠f k:=fun e=>hex ⟨a,ha,e⟩
   have h4:f b≠f k:=fun e=>hex ⟨b,hb,e⟩
   split at e<;>split at e<;>omega
theorem Ech.noMinor {n c m k:Nat} {p g:Nat→Nat} {M:Mx} (h:Ech n c m p M) (hg: ∀j,j<k→g j<c) (hk:m<k): ¬Zbt n k g M:=by
 rintro⟨f,h1,h2⟩
 apply h2
 by_cases hex: ∃t,t<k∧m≤f t
 ·obtain⟨t,ht,hm⟩:=hex
  exact Zpv ht fun j hj=>h.low (f t) (g j) hm (h1 t ht) (hg j hj)
 ·obtain⟨a,b,ha,hb,hab,e⟩:=Zs0 k (m:=m) (f:=f) hk fun i hi=>by
   apply Decidable.byContradiction
   intro hh
   exact hex ⟨i,hi,by omega⟩
  exact ZdE hab ha hb fun j _=>by rw[e]
def Sol (n w:Nat) (M:Mx) (x:Nat→Rat):Prop:= ∀i,i<n→S w (fun j=>M i j*x j)=M i w
def ZBI (n w:Nat) (M:Mx) (x:Nat→Rat):Prop:=Sol n w M x∧ ∀y,Sol n w M y→ ∀j,j<w→y j=x j
theorem Ech.none {n w m i:Nat} {p:Nat→Nat} {M:Mx} (h:Ech n w m p M) (hm:m≤i) (hi:i<n) (hz:M i w≠0) (x:Nat→Rat): ¬Sol n w M x:=fun hs=>by
 apply hz
 rw[←hs i hi]
 exact Zjj fun k hk=>by rw[h.low i k hm hi hk];grind
theorem Ech.ge {n w m:Nat} {p:Nat→Nat} {M:Mx} (h:Ech n w m p M): ∀t,t<m→t≤p t:=by
 intro t
 induction t with
 |zero=>intro _;omega
 |succ t ih=>intro ht;have:=ih (by omega);have:=h.inc t (t+1) (by omega) ht;omega
theorem Ech.le {n w m:Nat} {p:Nat→Nat} {M:Mx} (h:Ech n w m p M):m≤w:=by
 rcases Nat.eq_zero_or_pos m with h0|h0
 ·omega
 ·have:=h.ge (m-1) (by omega);have:=h.lt (m-1) (by omega);omega
theorem Ech.full {n w:Nat} {p:Nat→Nat} {M:Mx} (h:Ech n w w p M): ∀t,t<w→p t=t:=by
 intro t ht
 have h1:=h.ge t ht
 have h2: ∀d,t+d<w→p t+d≤p (t+d):=by
  intro d
  induction d with
  |zero=>intro _;exact Nat.le_refl _
  |succ d ih=>intro hd;have:=ih (by omega);have:=h.inc (t+d) (t+(d+1)) (by omega) hd;omega
 have h3:=h2 (w-1-t) (by omega)
 have h4:=h.lt (t+(w-1-t)) (by omega)
 omega
theorem Ech.many {n w m:Nat} {p:Nat→Nat} {M:Mx} (h:Ech n w m p M) (hm:m<w) (x:Nat→Rat): ¬ZBI n w M x:=by
 rintro⟨hs,hu⟩
 obtain⟨c,hc,hcp⟩: ∃c,c<w∧ ∀t,t<m→p t≠c:=by
  apply Decidable.byContradiction
  intro hn
  have hex: ∀c,c<w→ ∃t,t<m∧p t=c:=fun c hc=>by
   apply Decidable.byContradiction
   intro h2
   exact hn ⟨c,hc,fun t ht e=>h2 ⟨t,ht,e⟩⟩
  obtain⟨f,hf⟩: ∃f:Nat→Nat,∀c,c<w→f c<m∧p (f c)=c:=
   ⟨fun c=>if h:c<w then Classical.choose (hex c h)else 0,fun c hc=>by simp only[dif_pos hc];exact Classical.choose_spec (hex c hc)⟩
  obtain⟨a,b,ha,hb,hab,e⟩:=Zs0 w hm fun c hc=>(hf c hc).1
  apply hab
  rw[← (hf a ha).2,← (hf b hb).2,e]
 let v:Nat→Rat:=fun j=>if j=c then 1 else S m (fun t=>if p t=j then-M t c else 0)
 have hv: ∀i,i<n→S w (fun j=>M i j*v j)=0:=by
  intro i hi
  by_cases him:i<m
  ·have hpi:p i≠c:=hcp i him
   have hvp:v (p i)= -M i c:=by
    show(if p i=c then(1:Rat)else S m (fun t=>if p t=p i then-M t c else 0))=_
    rw[if_neg hpi,ZnH him]
    ·rw[if_pos rfl]
    ·intro k hk hne
     rw[if_neg]
     intro e
     rcases Nat.lt_or_gt_of_ne hne with h1|h1
     ·have:=h.inc k i h1 him;omega
     ·have:=h.inc i k h1 hk;omega
   have hsum:S w (fun j=>M i j*v j)=M i c*v c+M i (p i)*v (p i):=by
    have e1:S w (fun j=>M i j*v j)=S w (fun j=>(if j=c then M i c*v c else 0)+(if j=p i then M i (p i)*v (p i)else 0)):=by
     refine Zbd fun j hj=> ?_
     by_cases c1:j=c
     ·rw[if_pos c1,if_neg (by omega),c1];grind
     ·rw[if_neg c1]
      by_cases c2:j=p i
      ·rw[if_pos c2,c2];grind
      ·rw[if_neg c2]
       have:M i j*v j=0:=by
        by_cases c3: ∃t,t<m∧p t=j
        ·obtain⟨t,ht,e⟩:=c3
         rw[←e,h.col i t hi ht fun e2=>by subst e2;omega];grind
        ·have:v j=0:=by
          show(if j=c then(1:Rat)else S m (fun t=>if p t=j then-M t c else 0))=0
          rw[if_neg c1]
          exact Zjj fun t ht=>if_neg fun e=>c3 ⟨t,ht,e⟩
         rw[this];grind
       rw[this];grind
    rw[e1,Znb,ZnH hc fun k _ hne=>if_neg hne,ZnH (h.lt i him) fun k _ hne=>if_neg hne,if_pos rfl,if_pos rfl]
   rw[hsum,hvp,h.one i him]
   show M i c*(if c=c then(1:Rat)else _)+_=0
   rw[if_pos rfl];grind
  ·exact Zjj fun k hk=>by rw[h.low i k (by omega) hi hk];grind
 have h2:=hu (fun j=>x j+v j) (fun i hi=>by
  rw[Zbd (g:=fun j=>M i j*x j+M i j*v j) fun k _=>by grind,Znb,hs i hi,hv i hi];grind) c hc
 have h3:v c=1:=if_pos rfl
 simp only[h3]at h2
 grind
def bd:Nat→Nat→Nat
 |0,_=>1
 |n+1,B=>(n+1)*(B*bd n B)
theorem Zza {n:Nat} {f:Nat→Rat} {B:Nat} (h: ∀k,k<n→ ∃z:Int,f k=z∧z.natAbs≤B): ∃z:Int,S n f=z∧z.natAbs≤n*B:=by
 induction n with
 |zero=>exact⟨0,rfl,by simp⟩
 |succ n ih=>
  obtain⟨a,h1,h2⟩:=ih fun k hk=>h k (by omega)
  obtain⟨b,h3,h4⟩:=h n (by omega)
  refine⟨a+b,by rw[S,h1,h3,Rat.intCast_add], ?_⟩
  have:=Int.natAbs_add_le a b
  rw[Nat.succ_mul]
  omega
theorem Zm6 {B:Nat}: ∀ {n:Nat} {M:Mx},(∀i j,i<n→j<n→ ∃z:Int,M i j=z∧z.natAbs≤B)→ ∃z:Int,det n M=z∧z.natAbs≤bd n B
 |0,M,_=>⟨1,rfl,Nat.le_refl 1⟩
 |n+1,M,h=>by
  rw[det,bd]
  refine Zza fun k hk=> ?_
  obtain⟨a,h1,h2⟩:=h 0 k (by omega) hk
  obtain⟨b,h3,h4⟩:=Zm6 (M:=mnr M k) (n:=n) fun i j hi hj=>h (i+1) (sk k j) (by omega) (ZqM hj)
  have hs: ∃s:Int,sg k=s∧s.natAbs=1:=by
   clear hk h1 h2 h3 h4
   induction k with
   |zero=>exact⟨1,rfl,rfl⟩
   |succ k ih=>obtain⟨s,e1,e2⟩:=ih;exact⟨-s,by rw[sg,e1,Rat.intCast_neg],by rw[Int.natAbs_neg,e2]⟩
  obtain⟨s,e1,e2⟩:=hs
  refine⟨s*a*b,by rw[e1,h1,h3,Rat.intCast_mul,Rat.intCast_mul], ?_⟩
  rw[Int.natAbs_mul,Int.natAbs_mul,e2,Nat.one_mul]
  exact Nat.mul_le_mul h2 h4
end La

/-
set_option linter.constructorNameAsVariable false
 Determinants by the first row, rows and columns, the rule of Cramer; regular parts, reduced echelon forms, systems: plain Lean.
-/
namespace La
def S:Nat→(Nat→Rat)→Rat
 |0,_=>0
 |n+1,f=>S n f+f n
theorem ZaQ: ∀ {n:Nat} {f g:Nat→Rat},(∀k,k<n→f k=g k)→S n f=S n g
 |0,_,_,_=>rfl
 |n+1,f,g,h=>by rw[S,S,ZaQ fun k hk=>h k (by omega),h n (by omega)]
theorem Ziq {n:Nat} {f:Nat→Rat} (h: ∀k,k<n→f k=0):S n f=0:=by
 induction n with
 |zero=>rfl
 |succ n ih=>rw[S,ih fun k hk=>h k (by omega),h n (by omega)];grind
theorem ZkS (n:Nat) (f g:Nat→Rat):S n (fun k=>f k+g k)=S n f+S n g:=by
 induction n with
 |zero=>rw[S,S,S];grind
 |succ n ih=>rw[S,S,S,ih];grind
theorem ZfP (n:Nat) (c:Rat) (f:Nat→Rat):S n (fun k=>c*f k)=c*S n f:=by
 induction n with
 |zero=>rw[S,S];grind
 |succ n ih=>rw[S,S,ih];grind
theorem Zov (n:Nat) (f:Nat→Rat):S (n+1) f=f 0+S n (fun k=>f (k+1)):=by
 induction n with
 |zero=>rw[S,S,S];grind
 |succ n ih=>rw[S,ih,S];grind
theorem ZAC (m n:Nat) (f:Nat→Nat→Rat):S m (fun i=>S n (fun j=>f i j))=S n (fun j=>S m (fun i=>f i j)):=by
 induction m with
 |zero=>exact(Ziq fun k _=>rfl).symm
 |succ m ih=>rw[S,ih,←ZkS];rfl
theorem Zl8 {n j:Nat} {f:Nat→Rat} (hj:j<n) (h: ∀k,k<n→k≠j→f k=0):S n f=f j:=by
 induction n with
 |zero=>omega
 |succ n ih=>
  rw[S]
  by_cases e:j=n
  ·subst e;rw[Ziq fun k hk=>h k (by omega) (by omega)];grind
  ·rw[ih (by omega) fun k hk=>h k (by omega),h n (by omega) (by omega)];grind
theorem ZBq {n j:Nat} {f:Nat→Rat} (hj:j+1<n) (h: ∀k,k<n→k≠j→k≠j+1→f k=0):S n f=f j+f (j+1):=by
 induction n with
 |zero=>omega
 |succ n ih=>
  rw[S]
  by_cases e:j+1=n
  ·subst e;rw[Zl8 (j:=j) (by omega) fun k hk hn=>h k (by omega) hn (by omega)]
  ·rw[ih (by omega) fun k hk=>h k (by omega),h n (by omega) (by omega) (by omega)];grind
def sg:Nat→Rat
 |0=>1
 |n+1=> -sg n
def sk (k j:Nat):Nat:=if j<k then j else j+1
abbrev Mx:=Nat→Nat→Rat
def mnr (M:Mx) (k:Nat):Mx:=fun i j=>M (i+1) (sk k j)
def det:Nat→Mx→Rat
 |0,_=>1
 |n+1,M=>S (n+1) fun k=>sg k*M 0 k*det n (mnr M k)
theorem Zuh {k j n:Nat} (h:j<n):sk k j<n+1:=by unfold sk;split<;>omega
theorem Zbf: ∀ {n:Nat} {M N:Mx},(∀i j,i<n→j<n→M i j=N i j)→det n M=det n N
 |0,_,_,_=>rfl
 |n+1,M,N,h=>by
  rw[det,det]
  refine ZaQ fun k hk=> ?_
  rw[h 0 k (by omega) hk,Zbf (M:=mnr M k) (N:=mnr N k) fun i j hi hj=>h (i+1) (sk k j) (by omega) (Zuh hj)]
def mnc (M:Mx) (k:Nat):Mx:=fun i j=>M (sk k i) (j+1)
theorem ZnL: ∀ (n:Nat) (M:Mx),det (n+1) M=S (n+1) fun k=>sg k*M k 0*det n (mnc M k)
 |0,M=>rfl
 |n+1,M=>by
  rw[det,Zov,Zov (n+1) fun k=>sg k*M k 0*det (n+1) (mnc M k)]
  congr 1
  have e1: ∀l,l<n+1→sg (l+1)*M 0 (l+1)*det (n+1) (mnr M (l+1))=S (n+1) fun i=>sg (l+1)*M 0 (l+1)*(sg i*M (i+1) 0*det n (mnc (mnr M (l+1)) i)):=by
   intro l _
   rw[ZnL n,ZfP]
   rfl
  have e2: ∀i,i<n+1→sg (i+1)*M (i+1) 0*det (n+1) (mnc M (i+1))=S (n+1) fun l=>sg (i+1)*M (i+1) 0*(sg l*M 0 (l+1)*det n (mnr (mnc M (i+1)) l)):=by
   intro i _
   rw[det,ZfP]
   rfl
  rw[ZaQ e1,ZaQ e2,ZAC]
  refine ZaQ fun i _=>ZaQ fun l _=> ?_
  have e3:mnc (mnr M (l+1)) i=mnr (mnc M (i+1)) l:=by
   funext a b
   simp only[mnc,mnr,sk]
   congr 1<;>(repeat' split)<;>omega
  rw[e3,sg,sg]
  grind
def tr (M:Mx):Mx:=fun i j=>M j i
theorem ZtC: ∀ (n:Nat) (M:Mx),det n (tr M)=det n M
 |0,_=>rfl
 |n+1,M=>by
  rw[ZnL n M,det]
  refine ZaQ fun k _=> ?_
  rw[←ZtC n (mnc M k)]
  rfl
def Zbh (M:Mx) (i:Nat) (v:Nat→Rat):Mx:=fun r c=>if r=i then v c else M r c
theorem ZpO (M:Mx) (v:Nat→Rat) (k:Nat):mnr (Zbh M 0 v) k=mnr M k:=by
 funext a b;simp only[mnr,Zbh];rw[if_neg (by omega)]
theorem Zv7 (M:Mx) (i:Nat) (v:Nat→Rat) (k:Nat):mnr (Zbh M (i+1) v) k=Zbh (mnr M k) i (fun c=>v (sk k c)):=by
 funext a b;simp only[mnr,Zbh];by_cases h:a=i
 ·rw[if_pos (by omega),if_pos h]
 ·rw[if_neg (by omega),if_neg h]
theorem Zd6: ∀ {n i:Nat} (M:Mx) (u v:Nat→Rat) (c:Rat),i<n→det n (Zbh M i (fun j=>u j+c*v j))=det n (Zbh M i u)+c*det n (Zbh M i v)
 |0,_,_,_,_,_,h=>by omega
 |n+1,0,M,u,v,c,_=>by
  rw[det,det,det,←ZfP,←ZkS]
  refine ZaQ fun k _=> ?_
  simp only[ZpO]
  simp only[Zbh,if_pos]
  grind
 |n+1,i+1,M,u,v,c,h=>by
  rw[det,det,det,←ZfP,←ZkS]
  refine ZaQ fun k _=> ?_
  simp only[Zv7]
  rw[Zd6 (mnr M k) (fun j=>u (sk k j)) (fun j=>v (sk k j)) c (by omega)]
  simp only[Zbh,if_neg (show ¬ (0=i+1)by omega)]
  grind
theorem Zob: ∀ {n j:Nat} {M:Mx},j+1<n→(∀i,i<n→M i j=M i (j+1))→det n M=0
 |0,_,_,h,_=>by omega
 |n+1,j,M,h,he=>by
  rw[det,ZBq h]
  ·have e:det n (mnr M j)=det n (mnr M (j+1)):=by
    refine Zbf fun a b ha hb=> ?_
    simp only[mnr,sk]
    by_cases h1:b<j
    ·rw[if_pos h1,if_pos (by omega)]
    ·rw[if_neg h1]
     by_cases h2:b<j+1
     ·rw[if_pos h2,show b=j by omega,he (a+1) (by omega)]
     ·rw[if_neg h2]
   rw[e,he 0 (by omega),sg]
   grind
  ·intro k hk h1 h2
   have:det n (mnr M k)=0:=by
    by_cases h3:k<j
    ·refine Zob (j:=j-1) (by omega) fun i hi=> ?_
     simp only[mnr,sk]
     rw[if_neg (by omega),if_neg (by omega),show j-1+1=j by omega]
     exact he (i+1) (by omega)
    ·refine Zob (j:=j) (by omega) fun i hi=> ?_
     simp only[mnr,sk]
     rw[if_pos (by omega),if_pos (by omega)]
     exact he (i+1) (by omega)
   rw[this]
   grind
theorem Zub {n i:Nat} {M:Mx} (h:i+1<n) (he: ∀j,j<n→M i j=M (i+1) j):det n M=0:=by
 rw[←ZtC]
 exact Zob h he
theorem ZfW (M:Mx) (i:Nat):Zbh M i (M i)=M:=by
 funext a b;simp only[Zbh];split
 ·rename_i h;rw[h]
 ·rfl
def swR (M:Mx) (i k:Nat):Mx:=fun r c=>if r=i then M k c else if r=k then M i c else M r c
theorem Zez {M:Mx} {i k:Nat} {u v:Nat→Rat} (h:i≠k):Zbh (Zbh M i u) k v=Zbh (Zbh M k v) i u:=by
 funext a b;simp only[Zbh]
 by_cases h1:a=i<;>by_cases h2:a=k<;>simp[h1,h2]<;>omega
theorem ZCa {n i k:Nat} (hi:i<n) (hk:k<n) (hik:i≠k) (M:Mx) (u v:Nat→Rat)
 (h0: ∀w,det n (Zbh (Zbh M i w) k w)=0):det n (Zbh (Zbh M i u) k v)= -det n (Zbh (Zbh M i v) k u):=by
 have h1:=h0 (fun j=>u j+1*v j)
 rw[Zd6 _ _ _ _ hk,Zez hik,Zd6 _ _ _ _ hi,Zez hik,Zd6 _ _ _ _ hi]at h1
 have h2:=h0 u
 have h3:=h0 v
 rw[Zez hik]at h2 h3
 rw[Zez hik,Zez hik (u:=v)]
 grind
theorem ZzF (M:Mx) {i k:Nat} (h:i≠k):swR M i k=Zbh (Zbh M i (M k)) k (M i):=by
 funext a b;simp only[swR,Zbh]
 by_cases h1:a=i
 ·subst h1;rw[if_pos rfl,if_neg h,if_pos rfl]
 ·rw[if_neg h1]
  by_cases h2:a=k
  ·subst h2;rw[if_pos rfl,if_pos rfl]
  ·rw[if_neg h2,if_neg h2,if_neg h1]
theorem ZvH (M:Mx) {i k:Nat} (_:i≠k):Zbh (Zbh M i (M i)) k (M k)=M:=by
 rw[ZfW,ZfW]
theorem ZoI: ∀ (d:Nat) {n i k:Nat} {M:Mx},k=i+d+1→k<n→(∀j,j<n→M i j=M k j)→det n M=0
 |0,n,i,k,M,e,hk,he=>by subst e;exact Zub hk he
 |d+1,n,i,k,M,e,hk,he=>by
  have hs:det n M= -det n (swR M (k-1) k):=by
   have:=ZCa (n:=n) (i:=k-1) (k:=k) (by omega) hk (by omega) M (M (k-1)) (M k) fun w=>by
    refine Zub (i:=k-1) (by omega) fun j _=> ?_
    simp only[Zbh]
    rw[if_neg (by omega),if_pos trivial,if_pos (by omega)]
   rw[ZvH M (by omega),←ZzF M (by omega)]at this
   exact this
  rw[hs,ZoI d (i:=i) (k:=k-1) (by omega) (by omega)]
  ·grind
  ·intro j hj
   simp only[swR]
   rw[if_neg (by omega),if_neg (by omega),if_pos trivial]
   exact he j hj
theorem Zh2 {n i k:Nat} {M:Mx} (h:i≠k) (hi:i<n) (hk:k<n) (he: ∀j,j<n→M i j=M k j):det n M=0:=by
 by_cases h1:i<k
 ·exact ZoI (k-i-1) (i:=i) (k:=k) (by omega) hk he
 ·exact ZoI (i-k-1) (i:=k) (k:=i) (by omega) hi fun j hj=>(he j hj).symm
theorem ZmO {n i:Nat} (M:Mx) (c:Rat) (hi:i<n):det n (Zbh M i (fun j=>c*M i j))=c*det n M:=by
 have:=Zd6 (n:=n) (i:=i) M (fun _=>0) (M i) c hi
 rw[ZfW]at this
 have h0:det n (Zbh M i fun _=>0)=0:=by
  have:=Zd6 (n:=n) (i:=i) M (fun _=>0) (fun _=>0) 1 hi
  have e:(fun j:Nat=>(0:Rat)+1*0)=fun _=>0:=by funext j;grind
  rw[e]at this
  grind
 rw[h0]at this
 have e:(fun j=>(0:Rat)+c*M i j)=fun j=>c*M i j:=by funext j;grind
 rw[e]at this
 grind
theorem ZwB {n i:Nat} {M:Mx} (hi:i<n) (h: ∀j,j<n→M i j=0):det n M=0:=by
 have:=ZmO (n:=n) M 0 hi
 rw[Zbf (N:=M)]at this
 ·grind
 ·intro a b ha hb
  simp only[Zbh]
  split
  ·rename_i e;rw[e,h b hb];grind
  ·rfl
theorem ZyW {n:Nat} {M:Mx} (h: ∀i,0<i→i<n+1→M i 0=0):det (n+1) M=M 0 0*det n (mnr M 0):=by
 rw[ZnL,Zl8 (j:=0) (by omega)]
 ·rw[sg]
  have:mnc M 0=mnr M 0:=by funext a b;simp only[mnc,mnr,sk];rw[if_neg (by omega),if_neg (by omega)]
  rw[this];grind
 ·intro k hk h0
  rw[h k (by omega) hk];grind
theorem Zsb {n i:Nat} (M:Mx) (m:Nat) (x:Nat→Rat) (v:Nat→Nat→Rat) (hi:i<n):det n (Zbh M i (fun j=>S m fun t=>x t*v t j))=S m fun t=>x t*det n (Zbh M i (v t)):=by
 induction m with
 |zero=>
  rw[S]
  refine ZwB hi fun j _=> ?_
  simp only[Zbh];rw[if_pos trivial];rfl
 |succ m ih=>
  rw[S,←ih,←Zd6 _ _ _ _ hi]
  rfl
theorem Zxt {n i:Nat} {M:Mx} {x b:Nat→Rat} (hi:i<n) (h: ∀j,j<n→(S n fun t=>x t*M t j)=b j):det n (Zbh M i b)=x i*det n M:=by
 rw[Zbf (N:=Zbh M i (fun j=>S n fun t=>x t*M t j)),Zsb M n x M hi,Zl8 hi]
 ·rw[ZfW]
 ·intro k hk hne
  rw[Zh2 (i:=i) (k:=k) (fun e=>hne e.symm) hi hk]
  ·grind
  ·intro j _
   simp only[Zbh]
   rw[if_pos trivial,if_neg hne]
 ·intro a c _ hc
  simp only[Zbh]
  split
  ·exact(h c hc).symm
  ·rfl
def Zce (n k:Nat) (g:Nat→Nat) (M:Mx):Prop:= ∃f:Nat→Nat,(∀i,i<k→f i<n)∧det k (fun i j=>M (f i) (g j))≠0
theorem Zsc {n k:Nat} {g:Nat→Nat} {M N:Mx} (h:Zce n k g M) (he: ∀i j,i<n→j<k→M i (g j)=N i (g j)):Zce n k g N:=by
 obtain⟨f,h1,h2⟩:=h
 refine⟨f,h1, ?_⟩
 rwa[←Zbf (M:=fun i j=>M (f i) (g j)) (N:=fun i j=>N (f i) (g j)) fun i j hi hj=>he (f i) j (h1 i hi) hj]
theorem ZAt {n k i r:Nat} {g:Nat→Nat} {M:Mx} (hi:i<n) (hr:r<n) (h:Zce n k g M):Zce n k g (swR M i r):=by
 obtain⟨f,h1,h2⟩:=h
 refine⟨fun t=>if f t=i then r else if f t=r then i else f t,fun t ht=> ?_, ?_⟩
 ·have:=h1 t ht;simp only;split<;>(try split)<;>omega
 ·have e:(fun a j=>M (f a) (g j))=fun a j=>swR M i r (if f a=i then r else if f a=r then i else f a) (g j):=by
   funext a j
   simp only[swR]
   by_cases c1:f a=i
   ·rw[if_pos c1]
    by_cases c2:r=i
    ·rw[if_pos c2,c1,c2]
    ·rw[if_neg c2,if_pos rfl,c1]
   ·rw[if_neg c1]
    by_cases c2:f a=r
    ·rw[if_pos c2,if_pos rfl,c2]
    ·rw[if_neg c2,if_neg c1,if_neg c2]
  rw[e]at h2
  exact h2
theorem ZwZ {n k i r:Nat} {g:Nat→Nat} {M:Mx} {c:Rat} (hr:r<n) (h:Zce n k g (Zbh M i (fun j=>M i j+c*M r j))):Zce n k g M:=by
 obtain⟨f,h1,h2⟩:=h
 by_cases hex: ∃t,t<k∧f t=i
 ·obtain⟨t,ht,hf⟩:=hex
  have hu: ∀s,s<k→f s=i→s=t:=fun s hs hfs=>by
   apply Decidable.byContradiction
   intro hst
   refine h2 (Zh2 hst hs ht fun j _=> ?_)
   simp only[hf,hfs]
  by_cases h0:det k (fun a j=>M (f a) (g j))=0
  ·refine⟨fun s=>if s=t then r else f s,fun s hs=> ?_, ?_⟩
   ·simp only;split
    ·exact hr
    ·exact h1 s hs
   ·intro h3
    apply h2
    have e:det k (fun a j=>Zbh M i (fun j=>M i j+c*M r j) (f a) (g j))=det k (Zbh (fun a j=>M (f a) (g j)) t (fun j=>M i (g j)+c*M r (g j))):=by
     refine Zbf fun a j ha _=> ?_
     simp only[Zbh]
     by_cases hat:a=t
     ·subst hat;rw[if_pos hf,if_pos rfl]
     ·rw[if_neg hat,if_neg fun e=>hat (hu a ha e)]
    rw[e,Zd6 _ _ _ _ ht]
    have e1:det k (Zbh (fun a j=>M (f a) (g j)) t (fun j=>M i (g j)))=0:=by
     rw[←h0]
     refine Zbf fun a j ha _=> ?_
     simp only[Zbh]
     split
     ·rename_i hat;subst hat;rw[hf]
     ·rfl
    have e2:det k (Zbh (fun a j=>M (f a) (g j)) t (fun j=>M r (g j)))=0:=by
     rw[←h3]
     refine Zbf fun a j ha _=> ?_
     simp only[Zbh]
     split<;>rfl
    rw[e1,e2]
    grind
  ·exact⟨f,h1,h0⟩
 ·refine⟨f,h1, ?_⟩
  rwa[Zbf (N:=fun a j=>M (f a) (g j)) fun a j ha _=>by
   simp only[Zbh]
   rw[if_neg fun e=>hex ⟨a,ha,e⟩]]at h2
theorem ZqM {n k i:Nat} {g:Nat→Nat} {M:Mx} {c:Rat} (h:Zce n k g (Zbh M i (fun j=>c*M i j))):Zce n k g M:=by
 obtain⟨f,h1,h2⟩:=h
 by_cases hex: ∃t,t<k∧f t=i
 ·obtain⟨t,ht,hf⟩:=hex
  have hu: ∀s,s<k→f s=i→s=t:=fun s hs hfs=>by
   apply Decidable.byContradiction
   intro hst
   refine h2 (Zh2 hst hs ht fun j _=> ?_)
   simp only[hf,hfs]
  refine⟨f,h1,fun h0=>h2 ?_⟩
  have:=ZmO (n:=k) (fun a j=>M (f a) (g j)) c ht
  rw[h0]at this
  rw[show(0:Rat)=c*0 by grind,←this]
  refine Zbf fun a j ha _=> ?_
  simp only[Zbh]
  by_cases hat:a=t
  ·subst hat;rw[if_pos hf,if_pos rfl,hf]
  ·rw[if_neg hat,if_neg fun e=>hat (hu a ha e)]
 ·refine⟨f,h1, ?_⟩
  rwa[Zbf (N:=fun a j=>M (f a) (g j)) fun a j ha _=>by
   simp only[Zbh]
   rw[if_neg fun e=>hex ⟨a,ha,e⟩]]at h2
structure REq (n W:Nat) (M N:Mx):Prop where
 sol: ∀y:Nat→Rat,(∀i,i<n→S W (fun j=>M i j*y j)=0)↔(∀i,i<n→S W (fun j=>N i j*y j)=0)
 min: ∀k g,(∀j,j<k→g j<W)→(Zce n k g M↔Zce n k g N)
theorem REq.of_eq {n W:Nat} {M N:Mx} (h: ∀i j,i<n→j<W→M i j=N i j):REq n W M N:=
 ⟨fun y=>⟨fun hh i hi=>by rw[←hh i hi];exact ZaQ fun j hj=>by rw[h i j hi hj],fun hh i hi=>by rw[←hh i hi];exact ZaQ fun j hj=>by rw[h i j hi hj]⟩,
  fun k g hg=>⟨fun hh=>Zsc hh fun i j hi hj=>h i _ hi (hg j hj),fun hh=>Zsc hh fun i j hi hj=>(h i _ hi (hg j hj)).symm⟩⟩
theorem REq.refl (n W:Nat) (M:Mx):REq n W M M:= .of_eq fun _ _ _ _=>rfl
theorem REq.trans {n W:Nat} {M N K:Mx} (h1:REq n W M N) (h2:REq n W N K):REq n W M K:=
 ⟨fun y=>(h1.sol y).trans (h2.sol y),fun k g hg=>(h1.min k g hg).trans (h2.min k g hg)⟩
theorem Zt1 {M:Mx} {i r:Nat}:swR (swR M i r) i r=M:=by
 funext a b;simp only[swR]
 by_cases h1:a=i
 ·subst h1;rw[if_pos rfl]
  by_cases h2:r=a
  ·rw[if_pos h2,h2]
  ·rw[if_neg h2,if_pos trivial]
 ·rw[if_neg h1]
  by_cases h2:a=r
  ·subst h2;rw[if_pos rfl,if_pos trivial]
  ·rw[if_neg h2,if_neg h1,if_neg h2]
theorem Zw8 {n W i r:Nat} {M:Mx} {y:Nat→Rat} (hi:i<n) (hr:r<n) (h: ∀i,i<n→S W (fun j=>M i j*y j)=0): ∀t,t<n→S W (fun j=>swR M i r t j*y j)=0:=by
 intro t ht
 simp only[swR]
 by_cases h1:t=i
 ·simp only[if_pos h1];exact h r hr
 ·simp only[if_neg h1]
  by_cases h2:t=r
  ·simp only[if_pos h2];exact h i hi
  ·simp only[if_neg h2];exact h t ht
theorem REq.sw {n W i r:Nat} {M:Mx} (hi:i<n) (hr:r<n):REq n W M (swR M i r):=
 ⟨fun y=>⟨Zw8 hi hr,fun h=>by have:=Zw8 hi hr h;rwa[Zt1]at this⟩,
  fun k g _=>⟨ZAt hi hr,fun h=>by have:=ZAt hi hr h;rwa[Zt1]at this⟩⟩
theorem Znk {M:Mx} {i:Nat} {u v:Nat→Rat}:Zbh (Zbh M i u) i v=Zbh M i v:=by
 funext a b;simp only[Zbh];split<;>rfl
theorem Zur {n W i r:Nat} {M:Mx} {y:Nat→Rat} {c:Rat} (hi:i<n) (hr:r<n) (h: ∀i,i<n→S W (fun j=>M i j*y j)=0): ∀t,t<n→S W (fun j=>Zbh M i (fun j=>M i j+c*M r j) t j*y j)=0:=by
 intro t ht
 simp only[Zbh]
 by_cases h1:t=i
 ·simp only[if_pos h1]
  rw[ZaQ (g:=fun j=>M i j*y j+c*(M r j*y j)) fun k _=>by grind,ZkS,ZfP,h i hi,h r hr]
  grind
 ·simp only[if_neg h1];exact h t ht
theorem Zp2 {M:Mx} {i r:Nat} {c:Rat} (hne:i≠r):M=Zbh (Zbh M i (fun j=>M i j+c*M r j)) i (fun j=>Zbh M i (fun j=>M i j+c*M r j) i j+ -c*Zbh M i (fun j=>M i j+c*M r j) r j):=by
 rw[Znk]
 funext a b;simp only[Zbh]
 split
 ·rename_i h;subst h;rw[if_pos trivial,if_neg fun e=>hne e.symm];grind
 ·rfl
theorem REq.add {n W i r:Nat} {M:Mx} (c:Rat) (hi:i<n) (hr:r<n) (hne:i≠r):REq n W M (Zbh M i (fun j=>M i j+c*M r j)):=
 ⟨fun y=>⟨Zur hi hr,fun h=>by have:=Zur (c:= -c) hi hr h;rwa[←Zp2 hne]at this⟩,
  fun k g _=>⟨fun h=>ZwZ (c:= -c) hr (by rwa[←Zp2 hne]),ZwZ hr⟩⟩
theorem Zkj {M:Mx} {i:Nat} {c:Rat} (hc:c≠0):M=Zbh (Zbh M i (fun j=>c*M i j)) i (fun j=>c⁻¹ *Zbh M i (fun j=>c*M i j) i j):=by
 rw[Znk]
 funext a b;simp only[Zbh]
 split
 ·rename_i h;subst h;rw[if_pos trivial];grind
 ·rfl
theorem Zmx {n W i:Nat} {M:Mx} {y:Nat→Rat} {c:Rat} (h: ∀i,i<n→S W (fun j=>M i j*y j)=0) (hi:i<n): ∀t,t<n→S W (fun j=>Zbh M i (fun j=>c*M i j) t j*y j)=0:=by
 intro t ht
 simp only[Zbh]
 by_cases h1:t=i
 ·simp only[if_pos h1]
  rw[ZaQ (g:=fun j=>c*(M i j*y j)) fun k _=>by grind,ZfP,h i hi]
  grind
 ·simp only[if_neg h1];exact h t ht
theorem REq.scale {n W i:Nat} {M:Mx} {c:Rat} (hi:i<n) (hc:c≠0):REq n W M (Zbh M i (fun j=>c*M i j)):=
 ⟨fun y=>⟨fun h=>Zmx h hi,fun h=>by have:=Zmx (c:=c⁻¹) h hi;rwa[←Zkj hc]at this⟩,
  fun k g _=>⟨fun h=>ZqM (c:=c⁻¹) (i:=i) (by rwa[←Zkj hc]),ZqM⟩⟩
structure Ech (n c m:Nat) (p:Nat→Nat) (M:Mx):Prop where
 mn:m≤n
 inc: ∀s t,s<t→t<m→p s<p t
 lt: ∀t,t<m→p t<c
 one: ∀t,t<m→M t (p t)=1
 col: ∀i t,i<n→t<m→i≠t→M i (p t)=0
 low: ∀i j,m≤i→i<n→j<c→M i j=0
theorem Zs4: ∀ {n:Nat} {M:Mx},(∀i j,i<n→j<n→M i j=if i=j then 1 else 0)→det n M=1
 |0,_,_=>rfl
 |n+1,M,h=>by
  rw[ZyW fun i h0 hi=>by rw[h i 0 hi (by omega),if_neg (by omega)],h 0 0 (by omega) (by omega),if_pos rfl,Zs4]
  ·grind
  ·intro i j hi hj
   simp only[mnr,sk]
   rw[if_neg (by omega),h (i+1) (j+1) (by omega) (by omega)]
   by_cases e:i=j
   ·rw[if_pos e,if_pos (by omega)]
   ·rw[if_neg e,if_neg (by omega)]
theorem Ech.minor {n c m:Nat} {p:Nat→Nat} {M:Mx} (h:Ech n c m p M):Zce n m p M:=by
 refine⟨id,fun i hi=>Nat.lt_of_lt_of_le hi h.mn, ?_⟩
 rw[Zs4]
 ·decide
 ·intro i j hi hj
  show M i (p j)=_
  by_cases e:i=j
  ·subst e;rw[if_pos rfl,h.one i hi]
  ·rw[if_neg e,h.col i j (by have:=h.mn;omega) hj e]
theorem Zxa: ∀ (k:Nat) {m:Nat} {f:Nat→Nat},m<k→(∀i,i<k→f i<m)→ ∃a b,a<k∧b<k∧a≠b∧f a=f b
 |0,_,_,h,_=>by omega
 |k+1,0,f,_,hf=>by have:=hf 0 (by omega);omega
 |k+1,m+1,f,h,hf=>by
  by_cases hex: ∃a,a<k∧f a=f k
  ·obtain⟨a,ha,e⟩:=hex
   exact⟨a,k,by omega,by omega,by omega,e⟩
  ·obtain⟨a,b,ha,hb,hab,e⟩:=Zxa k (m:=m) (f:=fun i=>if f i<f k then f i else f i-1) (by omega) (fun i hi=>by
    have h1:=hf i (by omega)
    have h2:=hf k (by omega)
    have h3:f i≠f k:=fun e=>hex ⟨i,hi,e⟩
    split<;>omega)
   refine⟨a,b,by omega,by omega,hab, ?_⟩
   have h3:f a≠f k:=fun e=>hex ⟨a,ha,e⟩
   have h4:f b≠f k:=fun e=>hex ⟨b,hb,e⟩
   split at e<;>split at e<;>omega
def Sol (n w:Nat) (M:Mx) (x:Nat→Rat):Prop:= ∀i,i<n→S w (fun j=>M i j*x j)=M i w
def aug (w:Nat) (x:Nat→Rat):Nat→Rat:=fun j=>if j<w then x j else-1
theorem Zs6 (w:Nat) (x a:Nat→Rat):S (w+1) (fun j=>a j*aug w x j)=S w (fun j=>a j*x j)+ -1*a w:=by
 rw[S,ZaQ (g:=fun j=>a j*x j) fun k hk=>by rw[aug,if_pos hk],aug,if_neg (Nat.lt_irrefl w)]
 grind
theorem ZsL {n w:Nat} {M:Mx} {x:Nat→Rat}:Sol n w M x↔ ∀i,i<n→S (w+1) (fun j=>M i j*aug w x j)=0:=by
 constructor
 ·intro h i hi
  rw[Zs6 w x (M i),h i hi];grind
 ·intro h i hi
  have:=h i hi
  rw[Zs6 w x (M i)]at this
  grind
theorem REq.sols {n w:Nat} {M N:Mx} (h:REq n (w+1) M N) (x:Nat→Rat):Sol n w M x↔Sol n w N x:=by
 rw[ZsL,ZsL];exact h.sol _
def Zqn (n w:Nat) (M:Mx) (x:Nat→Rat):Prop:=Sol n w M x∧ ∀y,Sol n w M y→ ∀j,j<w→y j=x j
theorem REq.uniq {n w:Nat} {M N:Mx} (h:REq n (w+1) M N) (x:Nat→Rat):Zqn n w M x↔Zqn n w N x:=by
 unfold Zqn
 rw[h.sols]
 constructor
 ·exact fun⟨h1,h2⟩=>⟨h1,fun y hy=>h2 y ((h.sols y).2 hy)⟩
 ·exact fun⟨h1,h2⟩=>⟨h1,fun y hy=>h2 y ((h.sols y).1 hy)⟩
theorem Ech.none {n w m i:Nat} {p:Nat→Nat} {M:Mx} (h:Ech n w m p M) (hm:m≤i) (hi:i<n) (hz:M i w≠0) (x:Nat→Rat): ¬Sol n w M x:=fun hs=>by
 apply hz
 rw[←hs i hi]
 exact Ziq fun k hk=>by rw[h.low i k hm hi hk];grind
theorem Ech.ge {n w m:Nat} {p:Nat→Nat} {M:Mx} (h:Ech n w m p M): ∀t,t<m→t≤p t:=by
 intro t
 induction t with
 |zero=>intro _;omega
 |succ t ih=>intro ht;have:=ih (by omega);have:=h.inc t (t+1) (by omega) ht;omega
theorem Ech.le {n w m:Nat} {p:Nat→Nat} {M:Mx} (h:Ech n w m p M):m≤w:=by
 rcases Nat.eq_zero_or_pos m with h0|h0
 ·omega
 ·have:=h.ge (m-1) (by omega);have:=h.lt (m-1) (by omega);omega
theorem Ech.full {n w:Nat} {p:Nat→Nat} {M:Mx} (h:Ech n w w p M): ∀t,t<w→p t=t:=by
 intro t ht
 have h1:=h.ge t ht
 have h2: ∀d,t+d<w→p t+d≤p (t+d):=by
  intro d
  induction d with
  |zero=>intro _;exact Nat.le_refl _
  |succ d ih=>intro hd;have:=ih (by omega);have:=h.inc (t+d) (t+(d+1)) (by omega) hd;omega
 have h3:=h2 (w-1-t) (by omega)
 have h4:=h.lt (t+(w-1-t)) (by omega)
 omega
theorem Ech.one_sol {n w:Nat} {p:Nat→Nat} {M:Mx} (h:Ech n w w p M) (hz: ∀i,w≤i→i<n→M i w=0):Zqn n w M (fun t=>M t w):=by
 have hp:=h.full
 have e: ∀i,i<w→ ∀y:Nat→Rat,S w (fun j=>M i j*y j)=y i:=fun i hi y=>by
  rw[Zl8 hi]
  ·have:=h.one i hi;rw[hp i hi]at this;rw[this];grind
  ·intro k hk hne
   have:=h.col i k (by have:=h.mn;omega) hk fun e=>hne e.symm
   rw[hp k hk]at this;rw[this];grind
 refine⟨fun i hi=> ?_,fun y hy j hj=> ?_⟩
 ·by_cases hw:i<w
  ·rw[e i hw]
  ·rw[hz i (by omega) hi,Ziq fun k hk=>by rw[h.low i k (by omega) hi hk];grind]
 ·rw[←e j hj y]
  exact hy j (by have:=h.mn;omega)
theorem Ech.many {n w m:Nat} {p:Nat→Nat} {M:Mx} (h:Ech n w m p M) (hm:m<w) (x:Nat→Rat): ¬Zqn n w M x:=by
 rintro⟨hs,hu⟩
 obtain⟨c,hc,hcp⟩: ∃c,c<w∧ ∀t,t<m→p t≠c:=by
  apply Decidable.byContradiction
  intro hn
  have hex: ∀c,c<w→ ∃t,t<m∧p t=c:=fun c hc=>by
   apply Decidable.byContradiction
   intro h2
   exact hn ⟨c,hc,fun t ht e=>h2 ⟨t,ht,e⟩⟩
  obtain⟨f,hf⟩: ∃f:Nat→Nat,∀c,c<w→f c<m∧p (f c)=c:=
   ⟨fun c=>if h:c<w then Classical.choose (hex c h)else 0,fun c hc=>by simp only[dif_pos hc];exact Classical.choose_spec (hex c hc)⟩
  obtain⟨a,b,ha,hb,hab,e⟩:=Zxa w hm fun c hc=>(hf c hc).1
  apply hab
  rw[← (hf a ha).2,← (hf b hb).2,e]
 let v:Nat→Rat:=fun j=>if j=c then 1 else S m (fun t=>if p t=j then-M t c else 0)
 have hv: ∀i,i<n→S w (fun j=>M i j*v j)=0:=by
  intro i hi
  by_cases him:i<m
  ·have hpi:p i≠c:=hcp i him
   have hvp:v (p i)= -M i c:=by
    show(if p i=c then(1:Rat)else S m (fun t=>if p t=p i then-M t c else 0))=_
    rw[if_neg hpi,Zl8 him]
    ·rw[if_pos rfl]
    ·intro k hk hne
     rw[if_neg]
     intro e
     rcases Nat.lt_or_gt_of_ne hne with h1|h1
     ·have:=h.inc k i h1 him;omega
     ·have:=h.inc i k h1 hk;omega
   have hsum:S w (fun j=>M i j*v j)=M i c*v c+M i (p i)*v (p i):=by
    have e1:S w (fun j=>M i j*v j)=S w (fun j=>(if j=c then M i c*v c else 0)+(if j=p i then M i (p i)*v (p i)else 0)):=by
     refine ZaQ fun j hj=> ?_
     by_cases c1:j=c
     ·rw[if_pos c1,if_neg (by omega),c1];grind
     ·rw[if_neg c1]
      by_cases c2:j=p i
      ·rw[if_pos c2,c2];grind
      ·rw[if_neg c2]
       have:M i j*v j=0:=by
        by_cases c3: ∃t,t<m∧p t=j
        ·obtain⟨t,ht,e⟩:=c3
         rw[←e,h.col i t hi ht fun e2=>by subst e2;omega];grind
        ·have:v j=0:=by
          show(if j=c then(1:Rat)else S m (fun t=>if p t=j then-M t c else 0))=0
          rw[if_neg c1]
          exact Ziq fun t ht=>if_neg fun e=>c3 ⟨t,ht,e⟩
         rw[this];grind
       rw[this];grind
    rw[e1,ZkS,Zl8 hc fun k _ hne=>if_neg hne,Zl8 (h.lt i him) fun k _ hne=>if_neg hne,if_pos rfl,if_pos rfl]
   rw[hsum,hvp,h.one i him]
   show M i c*(if c=c then(1:Rat)else _)+_=0
   rw[if_pos rfl];grind
  ·exact Ziq fun k hk=>by rw[h.low i k (by omega) hi hk];grind
 have h2:=hu (fun j=>x j+v j) (fun i hi=>by
  rw[ZaQ (g:=fun j=>M i j*x j+M i j*v j) fun k _=>by grind,ZkS,hs i hi,hv i hi];grind) c hc
 have h3:v c=1:=if_pos rfl
 simp only[h3]at h2
 grind
theorem Zv2 {n w a:Nat} {M:Mx} (ha:a<n) (hz:M a w≠0) (x:Nat→Rat):
 Sol n (w+1) M x↔((∀i,i<n→i≠a→S w (fun j=>(M i j-M i w/M a w*M a j)*x j)=M i (w+1)-M i w/M a w*M a (w+1))∧x w=(M a (w+1)-S w (fun j=>M a j*x j))/M a w):=by
 constructor
 ·intro h
  have h1:=h a ha
  rw[S]at h1
  refine⟨fun i hi _=> ?_, ?_⟩
  ·have h2:=h i hi
   rw[S]at h2
   rw[ZaQ (g:=fun j=>M i j*x j+ -(M i w/M a w)*(M a j*x j)) fun k _=>by grind,ZkS,ZfP]
   grind
  ·grind
 ·rintro⟨h1,h2⟩ i hi
  have h3:S w (fun j=>M a j*x j)+M a w*x w=M a (w+1):=by grind
  rw[S]
  by_cases e:i=a
  ·rw[e];exact h3
  ·have h4:=h1 i hi e
   rw[ZaQ (g:=fun j=>M i j*x j+ -(M i w/M a w)*(M a j*x j)) fun k _=>by grind,ZkS,ZfP]at h4
   grind
def bd:Nat→Nat→Nat
 |0,_=>1
 |n+1,B=>(n+1)*(B*bd n B)
theorem Zzq {n:Nat} {f:Nat→Rat} {B:Nat} (h: ∀k,k<n→ ∃z:Int,f k=z∧z.natAbs≤B): ∃z:Int,S n f=z∧z.natAbs≤n*B:=by
 induction n with
 |zero=>exact⟨0,rfl,by simp⟩
 |succ n ih=>
  obtain⟨a,h1,h2⟩:=ih fun k hk=>h k (by omega)
  obtain⟨b,h3,h4⟩:=h n (by omega)
  refine⟨a+b,by rw[S,h1,h3,Rat.intCast_add], ?_⟩
  have:=Int.natAbs_add_le a b
  rw[Nat.succ_mul]
  omega
theorem Zjm {B:Nat}: ∀ {n:Nat} {M:Mx},(∀i j,i<n→j<n→ ∃z:Int,M i j=z∧z.natAbs≤B)→ ∃z:Int,det n M=z∧z.natAbs≤bd n B
 |0,M,_=>⟨1,rfl,Nat.le_refl 1⟩
 |n+1,M,h=>by
  rw[det,bd]
  refine Zzq fun k hk=> ?_
  obtain⟨a,h1,h2⟩:=h 0 k (by omega) hk
  obtain⟨b,h3,h4⟩:=Zjm (M:=mnr M k) (n:=n) fun i j hi hj=>h (i+1) (sk k j) (by omega) (Zuh hj)
  have hs: ∃s:Int,sg k=s∧s.natAbs=1:=by
   clear hk h1 h2 h3 h4
   induction k with
   |zero=>exact⟨1,rfl,rfl⟩
   |succ k ih=>obtain⟨s,e1,e2⟩:=ih;exact⟨-s,by rw[sg,e1,Rat.intCast_neg],by rw[Int.natAbs_neg,e2]⟩
  obtain⟨s,e1,e2⟩:=hs
  refine⟨s*a*b,by rw[e1,h1,h3,Rat.intCast_mul,Rat.intCast_mul], ?_⟩
  rw[Int.natAbs_mul,Int.natAbs_mul,e2,Nat.one_mul]
  exact Nat.mul_le_mul h2 h4
theorem REq.scales {n W:Nat} {M:Mx} {L:Nat→Rat} (hL: ∀i,i<n→L i≠0):REq n W M (fun i j=>L i*M i j):=by
 have: ∀m,m≤n→REq n W M (fun i j=>if i<m then L i*M i j else M i j):=by
  intro m
  induction m with
  |zero=>intro _;exact .of_eq fun i j _ _=>by rw[if_neg (Nat.not_lt_zero i)]
  |succ m ih=>
   intro hm
   refine(ih (by omega)).trans ((REq.scale (i:=m) (c:=L m) (by omega) (hL m (by omega))).trans (.of_eq fun i j _ _=> ?_))
   simp only[Zbh]
   by_cases e:i=m
   ·subst e;rw[if_pos rfl,if_neg (Nat.lt_irrefl i),if_pos (by omega)]
   ·rw[if_neg e]
    by_cases h2:i<m
    ·rw[if_pos h2,if_pos (by omega)]
    ·rw[if_neg h2,if_neg (by omega)]
 exact(this n (Nat.le_refl n)).trans (.of_eq fun i j hi _=>by rw[if_pos hi])
theorem ZqV {n w m:Nat} {p:Nat→Nat} {M N:Mx} {x:Nat→Rat} {B:Nat} (hR:REq n (w+1) M N) (hE:Ech n w m p N) (hU:Zqn n w M x)
 (hB: ∀i j,i<n→j<w+1→ ∃z:Int,M i j=z∧z.natAbs≤B): ∀j,j<w→ ∃a b:Int,b≠0∧x j=a/b∧a.natAbs≤bd w B∧b.natAbs≤bd w B:=by
 intro j hj
 have hmw:m=w:=by
  apply Decidable.byContradiction
  intro hne
  have:=hE.le
  exact hE.many (by omega) x ((hR.uniq x).1 hU)
 subst hmw
 obtain⟨f,h1,h2⟩:=(hR.min m p fun j hj=>by have:=hE.lt j hj;omega).2 hE.minor
 have hp:=hE.full
 rw[Zbf (N:=fun i j=>M (f i) j) fun i j _ hj=>by rw[hp j hj]]at h2
 have h3:=Zxt (n:=m) (i:=j) (M:=tr fun i j=>M (f i) j) (x:=x) (b:=fun i=>M (f i) m) hj fun i hi=>by
  rw[←hU.1 (f i) (h1 i hi)]
  exact ZaQ fun k _=>by simp only[tr];grind
 rw[ZtC]at h3
 obtain⟨b,e1,e2⟩:=Zjm (B:=B) (n:=m) (M:=fun i j=>M (f i) j) fun i j hi hj=>hB (f i) j (h1 i hi) (by omega)
 obtain⟨a,e3,e4⟩:=Zjm (B:=B) (n:=m) (M:=Zbh (tr fun i j=>M (f i) j) j (fun i=>M (f i) m)) fun r c hr hc=>by
  simp only[Zbh,tr]
  split
  ·exact hB (f c) m (h1 c hc) (by omega)
  ·exact hB (f c) r (h1 c hc) (by omega)
 rw[e1]at h3 h2
 rw[e3]at h3
 have hb:(b:Rat)≠0:=h2
 refine⟨a,b,fun e=>hb (by rw[e];rfl), ?_,e4,e2⟩
 rw[h3]
 grind
end La

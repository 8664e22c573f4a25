/-
 Elimination: rows less combinations of other ones; how great their numbers get: plain Lean.
-/
import Derived.Test.YtdnodlkdndfplaaGreatDoorLa
set_option linter.constructorNameAsVariable false
set_option linter.unusedSimpArgs false
set_option linter.unusedVariables false
namespace La
def con (x:Nat) (f:Nat→Nat):Nat→Nat
 |0=>x
 |n+1=>f n
def cmb (m:Nat) (y:Nat→Rat) (ρ:Nat→Nat) (M:Mx):Nat→Rat:=fun j=>S m fun u=>y u*M (ρ u) j
def Cm (M:Mx) (ρ κ:Nat→Nat):Mx:=fun a b=>M (ρ a) (κ b)
theorem ZyL {m r k:Nat} {M:Mx} {ρ κ:Nat→Nat} {x:Nat→Rat} (h: ∀t,t<m→M r (κ t)-cmb m x ρ M (κ t)=0):det (m+1) (Cm M (con r ρ) (con k κ))=(M r k-cmb m x ρ M k)*det m (Cm M ρ κ):=by
 obtain⟨A,hA⟩: ∃A,Cm M (con r ρ) (con k κ)=A:=⟨_,rfl⟩
 have hS: ∀j,S m (fun u=>x u*A (u+1) j)=cmb m x ρ M (con k κ j):=fun j=>by rw[←hA];rfl
 have e1:A=Zbh A 0 (fun j=>(A 0 j-S m (fun u=>x u*A (u+1) j))+1*S m (fun u=>x u*A (u+1) j)):=by
  funext a b
  simp only[Zbh]
  split
  ·rename_i h0;subst h0;grind
  ·rfl
 rw[hA]
 have e2:det (m+1) A=det (m+1) (Zbh A 0 (fun j=>A 0 j-S m (fun u=>x u*A (u+1) j)))+1*det (m+1) (Zbh A 0 (fun j=>S m (fun u=>x u*A (u+1) j))):=by
  conv=>lhs;rw[e1]
  exact Zd6 A (fun j=>A 0 j-S m (fun u=>x u*A (u+1) j)) (fun j=>S m (fun u=>x u*A (u+1) j)) 1 (Nat.succ_pos m)
 have e3:det (m+1) (Zbh A 0 (fun j=>S m (fun u=>x u*A (u+1) j)))=0:=by
  rw[Zsb A m x (fun u=>A (u+1)) (Nat.succ_pos m)]
  refine Ziq fun u hu=> ?_
  rw[Zh2 (i:=0) (k:=u+1) (by omega) (by omega) (by omega)]
  ·grind
  ·intro j _
   simp only[Zbh]
   rw[if_pos trivial,if_neg (by omega)]
 rw[e2,e3,det,Zl8 (j:=0) (Nat.succ_pos m)]
 ·rw[ZpO]
  have e4:det m (mnr A 0)=det m (Cm M ρ κ):=Zbf fun a b _ _=>by
   rw[←hA]
   simp only[mnr,sk,Cm,con,Nat.not_lt_zero,if_false]
  have e5:Zbh A 0 (fun j=>A 0 j-S m (fun u=>x u*A (u+1) j)) 0 0=M r k-cmb m x ρ M k:=by
   simp only[Zbh,if_pos]
   rw[hS,←hA]
   rfl
  rw[e4,e5,sg]
  grind
 ·intro t ht h0
  have e6:Zbh A 0 (fun j=>A 0 j-S m (fun u=>x u*A (u+1) j)) 0 t=0:=by
   simp only[Zbh,if_pos]
   rw[hS]
   obtain⟨t,rfl⟩: ∃s,t=s+1:=⟨t-1,by omega⟩
   have:=h t (by omega)
   rw[←hA]
   exact this
  rw[e6]
  grind
theorem Zoa (L:Rat): ∀ (n:Nat) (M:Mx),det n (fun i j=>L*M i j)=L^n*det n M
 |0,M=>by rw[det,det];grind
 |n+1,M=>by
  rw[det,det,←ZfP]
  refine ZaQ fun k _=> ?_
  have:=Zoa L n (mnr M k)
  have e:mnr (fun i j=>L*M i j) k=fun i j=>L*mnr M k i j:=rfl
  rw[e,this]
  grind
structure Ints (n W:Nat) (M:Mx) (L:Int) (B:Nat):Prop where
 ne:L≠0
 le:L.natAbs≤B
 z: ∀i j,i<n→j<W→ ∃z:Int,(L:Rat)*M i j=z∧z.natAbs≤B
theorem Zfv {b:Int} (h:b≠0):(b:Rat)≠0:=fun e=>h (by exact_mod_cast e)
theorem Zui {x:Rat} (h:x≠0): ∀n:Nat,x^n≠0
 |0=>by rw[Rat.pow_zero];decide
 |n+1=>by
  rw[Rat.pow_succ]
  intro h0
  rcases Rat.mul_eq_zero.1 h0 with h1|h1
  ·exact Zui h n h1
  ·exact h h1
theorem Zl2 {m B:Nat} {Z:Mx} {x e:Nat→Rat} (hZ: ∀i j,i<m→j<m→ ∃z:Int,Z i j=z∧z.natAbs≤B) (he: ∀j,j<m→ ∃z:Int,e j=z∧z.natAbs≤B) (hd:det m Z≠0) (h: ∀j,j<m→S m (fun t=>x t*Z t j)=e j):
 ∃b:Int,b≠0∧b.natAbs≤bd m B∧ ∀u,u<m→ ∃a:Int,a.natAbs≤bd m B∧x u*b=a:=by
 obtain⟨b,e1,e2⟩:=Zjm hZ
 rw[e1]at hd
 refine⟨b,fun h0=>hd (by rw[h0];rfl),e2,fun u hu=> ?_⟩
 obtain⟨a,e3,e4⟩:=Zjm (B:=B) (n:=m) (M:=Zbh Z u e) fun r c hr hc=>by
  simp only[Zbh]
  split
  ·exact he c hc
  ·exact hZ r c hr hc
 refine⟨a,e4, ?_⟩
 rw[←e1,←e3,Zxt hu h]
theorem ZqB {m B D:Nat} {x w:Nat→Rat} {b:Int} (hx: ∀u,u<m→ ∃a:Int,a.natAbs≤D∧x u*b=a) (hw: ∀u,u<m→ ∃z:Int,w u=z∧z.natAbs≤B): ∃a:Int,a.natAbs≤m*(B*D)∧S m (fun u=>x u*w u)*b=a:=by
 obtain⟨a,h1,h2⟩:=Zzq (n:=m) (f:=fun u=>b*(x u*w u)) (B:=B*D) fun u hu=>by
  obtain⟨p,p1,p2⟩:=hx u hu
  obtain⟨q,q1,q2⟩:=hw u hu
  refine⟨q*p, ?_, ?_⟩
  ·rw[q1,Rat.intCast_mul,←p2];grind
  ·rw[Int.natAbs_mul];exact Nat.mul_le_mul q2 p1
 rw[ZfP]at h1
 exact⟨a,h2,by rw[←h1];grind⟩
theorem ZwP {n W m i j B:Nat} {M:Mx} {L:Int} {ρ κ:Nat→Nat} {x:Nat→Rat} (hI:Ints n W M L B) (hρ: ∀u,u<m→ρ u<n) (hκ: ∀t,t<m→κ t<W) (hd:det m (Cm M ρ κ)≠0) (hi:i<n) (hx: ∀t,t<m→M i (κ t)-cmb m x ρ M (κ t)=0) (hj:j<W):
 ∃a b:Int,b≠0∧M i j-cmb m x ρ M j=a/b∧a.natAbs≤(m+1)*(B*bd m B)∧b.natAbs≤B*bd m B:=by
 have hL:=Zfv hI.ne
 obtain⟨b,b1,b2,b3⟩:=Zl2 (m:=m) (B:=B) (Z:=fun a c=>(L:Rat)*M (ρ a) (κ c)) (x:=x) (e:=fun t=>L*M i (κ t)) (fun a c ha hc=>hI.z _ _ (hρ a ha) (hκ c hc)) (fun t ht=>hI.z _ _ hi (hκ t ht))
  (by
   show det m (fun a c=>(L:Rat)*Cm M ρ κ a c)≠0
   rw[Zoa (L:Rat) m (Cm M ρ κ)]
   intro h0
   rcases Rat.mul_eq_zero.1 h0 with h1|h1
   ·exact Zui hL _ h1
   ·exact hd h1)
  (fun t ht=>by
   have:=hx t ht
   have e:S m (fun u=>x u*((L:Rat)*M (ρ u) (κ t)))=L*cmb m x ρ M (κ t):=by
    rw[cmb,←ZfP];exact ZaQ fun u _=>by grind
   rw[e];grind)
 obtain⟨c,c1,c2⟩:=ZqB (m:=m) (B:=B) (w:=fun u=>L*M (ρ u) j) b3 fun u hu=>hI.z _ _ (hρ u hu) hj
 obtain⟨z,z1,z2⟩:=hI.z i j hi hj
 have e:S m (fun u=>x u*((L:Rat)*M (ρ u) j))=L*cmb m x ρ M j:=by
  rw[cmb,←ZfP];exact ZaQ fun u _=>by grind
 rw[e]at c2
 have hb:=Zfv b1
 refine⟨z*b-c,L*b, ?_, ?_, ?_, ?_⟩
 ·exact Int.mul_ne_zero hI.ne b1
 ·rw[Rat.intCast_sub,Rat.intCast_mul,Rat.intCast_mul,←z1,←c2];grind
 ·have h1:(z*b-c).natAbs≤(z*b).natAbs+c.natAbs:=by omega
  have h2:(z*b).natAbs≤B*bd m B:=by rw[Int.natAbs_mul];exact Nat.mul_le_mul z2 b2
  rw[Nat.succ_mul]
  omega
 ·rw[Int.natAbs_mul];exact Nat.mul_le_mul hI.le b2
theorem Zua {n W m j B:Nat} {M:Mx} {L:Int} {ρ κ:Nat→Nat} {x:Nat→Rat} (hI:Ints n W M L B) (hB:1≤B) (hρ: ∀u,u<m→ρ u<n) (hκ: ∀t,t<m→κ t<W) (hd:det m (Cm M ρ κ)≠0) (hx: ∀t,t<m→cmb m x ρ M (κ t)=0∨cmb m x ρ M (κ t)=1) (hj:j<W):
 ∃a b:Int,b≠0∧cmb m x ρ M j=a/b∧a.natAbs≤(m+1)*(B*bd m B)∧b.natAbs≤B*bd m B:=by
 have hL:=Zfv hI.ne
 have eL: ∀t,S m (fun u=>x u/(L:Rat)*((L:Rat)*M (ρ u) t))=cmb m x ρ M t:=fun t=>by
  rw[cmb];exact ZaQ fun u _=>by grind
 obtain⟨b,b1,b2,b3⟩:=Zl2 (m:=m) (B:=B) (Z:=fun a c=>(L:Rat)*M (ρ a) (κ c)) (x:=fun u=>x u/L) (e:=fun t=>cmb m x ρ M (κ t)) (fun a c ha hc=>hI.z _ _ (hρ a ha) (hκ c hc)) (fun t ht=>by
  rcases hx t ht with h|h
  ·exact⟨0,h,Nat.zero_le _⟩
  ·exact⟨1,h,hB⟩)
  (by
   show det m (fun a c=>(L:Rat)*Cm M ρ κ a c)≠0
   rw[Zoa (L:Rat) m (Cm M ρ κ)]
   intro h0
   rcases Rat.mul_eq_zero.1 h0 with h1|h1
   ·exact Zui hL _ h1
   ·exact hd h1)
  (fun t ht=>eL _)
 obtain⟨c,c1,c2⟩:=ZqB (m:=m) (B:=B) (w:=fun u=>L*M (ρ u) j) b3 fun u hu=>hI.z _ _ (hρ u hu) hj
 rw[eL]at c2
 have hb:=Zfv b1
 refine⟨c,b,b1, ?_, ?_, ?_⟩
 ·rw[←c2];grind
 ·refine Nat.le_trans c1 (Nat.mul_le_mul_right _ (Nat.le_succ m))
 ·exact Nat.le_trans b2 (Nat.le_mul_of_pos_left _ hB)
theorem Zud (D:Nat) (hD:1≤D): ∀l:List Rat,(∀q∈l,q.den≤D∧q.num.natAbs≤D)→ ∃L:Int,L≠0∧L.natAbs≤D^l.length∧ ∀q∈l,∃z:Int,(L:Rat)*q=z
 | [],_=>⟨1,by decide,Nat.le_refl _,fun q h=>absurd h List.not_mem_nil⟩
 |q::l,h=>by
  obtain⟨L,h1,h2,h3⟩:=Zud D hD l fun p hp=>h p (List.mem_cons_of_mem _ hp)
  have hq:=h q List.mem_cons_self
  have hden:((q.den:Int):Rat)≠0:=Zfv (by have:=q.den_pos;omega)
  have hm:((q.den:Int):Rat)*q=(q.num:Rat):=by
   have:=(Rat.divInt_eq_div q.num (q.den:Int)).symm.trans (Rat.num_divInt_den q)
   have e:((q.den:Int):Rat)=((q.den:Nat):Rat):=rfl
   rw[e]at hden⊢
   grind
  refine⟨q.den*L,Int.mul_ne_zero (by have:=q.den_pos;omega) h1, ?_,fun p hp=> ?_⟩
  ·rw[Int.natAbs_mul,List.length_cons,Nat.pow_succ,Nat.mul_comm (D^_)]
   exact Nat.mul_le_mul hq.1 h2
  ·rcases List.mem_cons.1 hp with rfl|hp
   ·refine⟨L*p.num, ?_⟩
    rw[Rat.intCast_mul,Rat.intCast_mul,←hm];grind
   ·obtain⟨z,hz⟩:=h3 p hp
    refine⟨q.den*z, ?_⟩
    rw[Rat.intCast_mul,Rat.intCast_mul,←hz];grind
theorem Zv4 {L z:Int} {q:Rat} {D:Nat} (h:(L:Rat)*q=z) (hq:q.num.natAbs≤D):z.natAbs≤L.natAbs*D:=by
 have hden:((q.den:Int):Rat)≠0:=Zfv (by have:=q.den_pos;omega)
 have hm:((q.den:Int):Rat)*q=(q.num:Rat):=by
  have:=(Rat.divInt_eq_div q.num (q.den:Int)).symm.trans (Rat.num_divInt_den q)
  have e:((q.den:Int):Rat)=((q.den:Nat):Rat):=rfl
  rw[e]at hden⊢
  grind
 have e:((z*q.den:Int):Rat)=((L*q.num:Int):Rat):=by
  rw[Rat.intCast_mul,Rat.intCast_mul,←hm,←h];grind
 have e2:z*q.den=L*q.num:=by exact_mod_cast e
 have e3:z.natAbs*q.den=L.natAbs*q.num.natAbs:=by
  have:=congrArg Int.natAbs e2
  rwa[Int.natAbs_mul,Int.natAbs_mul,Int.natAbs_natCast]at this
 have:=q.den_pos
 calc z.natAbs≤z.natAbs*q.den:=Nat.le_mul_of_pos_right _ this
  _=L.natAbs*q.num.natAbs:=e3
  _≤L.natAbs*D:=Nat.mul_le_mul_left _ hq
end La
/-
 Elimination column by column: what every step keeps; how great the numbers get: plain Lean.
-/
namespace La
def ZBa (x:Rat) (f:Nat→Rat):Nat→Rat
 |0=>x
 |n+1=>f n
theorem Zn8 (m:Nat) (a:Rat) (x:Nat→Rat) (o:Nat) (ρ:Nat→Nat) (M:Mx) (j:Nat):cmb (m+1) (ZBa a x) (con o ρ) M j=a*M o j+cmb m x ρ M j:=by
 rw[cmb,Zov,cmb]
 rfl
theorem Zti (m:Nat) (x y:Nat→Rat) (c:Rat) (ρ:Nat→Nat) (M:Mx) (j:Nat):cmb m (fun u=>x u+c*y u) ρ M j=cmb m x ρ M j+c*cmb m y ρ M j:=by
 rw[cmb,cmb,cmb,←ZfP,←ZkS]
 exact ZaQ fun u _=>by grind
theorem ZxS (m:Nat) (y:Nat→Rat) (c:Rat) (ρ:Nat→Nat) (M:Mx) (j:Nat):cmb m (fun u=>c*y u) ρ M j=c*cmb m y ρ M j:=by
 rw[cmb,cmb,←ZfP]
 exact ZaQ fun u _=>by grind
def kap (p:List Nat) (t:Nat):Nat:=p.getD (p.length-1-t) 0
theorem ZdG {p:List Nat} {k t:Nat}:(p++ [k]).getD t 0=if t<p.length then p.getD t 0 else if t=p.length then k else 0:=by
 rw[List.getD_eq_getElem?_getD,List.getD_eq_getElem?_getD]
 by_cases h:t<p.length
 ·rw[if_pos h,List.getElem?_append_left h]
 ·rw[if_neg h,List.getElem?_append_right (by omega)]
  by_cases h2:t=p.length
  ·rw[if_pos h2,h2,Nat.sub_self];rfl
  ·rw[if_neg h2,List.getElem?_eq_none (by simp;omega)];rfl
theorem Zwd {p:List Nat} {k t:Nat} (ht:t<p.length+1):kap (p++ [k]) t=con k (kap p) t:=by
 unfold kap
 rw[List.length_append,List.length_singleton,ZdG]
 cases t with
 |zero=>rw[if_neg (by omega),if_pos (by omega)];rfl
 |succ t=>
  rw[if_pos (by omega),show p.length+1-1-(t+1)=p.length-1-t by omega]
  rfl
structure Elm (n W:Nat) (M:Mx) (k:Nat) (p:List Nat) (N:Mx):Prop where
 req:REq n W M N
 ech:Ech n k p.length (fun t=>p.getD t 0) N
 kinds: ∃ρ:Nat→Nat,(∀u,u<p.length→ρ u<n)∧det p.length (Cm M ρ (kap p))≠0∧
  (∀i,i<p.length→ ∃x,∀j,j<W→N i j=cmb p.length x ρ M j)∧
  (∀i,p.length≤i→i<n→ ∃o x,o<n∧ ∀j,j<W→N i j=M o j-cmb p.length x ρ M j)
theorem Elm.start {n W:Nat} {M N:Mx} (h: ∀i j,i<n→j<W→M i j=N i j):Elm n W M 0 [] N:=by
 refine⟨.of_eq h,⟨Nat.zero_le _,fun s t _ h=>absurd h (Nat.not_lt_zero _),fun t h=>absurd h (Nat.not_lt_zero _),fun t h=>absurd h (Nat.not_lt_zero _),fun i t _ h=>absurd h (Nat.not_lt_zero _),fun i j _ _ h=>absurd h (Nat.not_lt_zero _)⟩,fun u=>u,fun u h=>absurd h (Nat.not_lt_zero _), ?_,fun i h=>absurd h (Nat.not_lt_zero _), ?_⟩
 ·show det 0 _≠0
  rw[det];decide
 ·intro i _ hi
  refine⟨i,fun _=>0,hi,fun j hj=> ?_⟩
  show N i j=M i j-cmb 0 _ _ _ _
  rw[cmb,S,h i j hi hj];grind
theorem Elm.skip {n W k:Nat} {M N:Mx} {p:List Nat} (h:Elm n W M k p N) (hz: ∀i,p.length≤i→i<n→N i k=0):Elm n W M (k+1) p N:=by
 refine⟨h.req,⟨h.ech.mn,h.ech.inc,fun t ht=>Nat.lt_succ_of_lt (h.ech.lt t ht),h.ech.one,h.ech.col,fun i j hi hn hj=> ?_⟩,h.kinds⟩
 by_cases e:j=k
 ·rw[e];exact hz i hi hn
 ·exact h.ech.low i j hi hn (by omega)
theorem Elm.kap_lt {n W k:Nat} {M N:Mx} {p:List Nat} (h:Elm n W M k p N) {t:Nat} (ht:t<p.length):kap p t<k:=h.ech.lt _ (by omega)
theorem REq.clear {n W m k:Nat} {M N:Mx} (hm:m<n) (h: ∀i j,i<n→j<W→N i j=if i=m then M m j else M i j-M i k*M m j):REq n W M N:=by
 have: ∀t,t≤n→REq n W M (fun i j=>if i<t then(if i=m then M m j else M i j-M i k*M m j)else M i j):=by
  intro t
  induction t with
  |zero=>intro _;exact .of_eq fun i j _ _=>by rw[if_neg (Nat.not_lt_zero i)]
  |succ t ih=>
   intro ht
   refine(ih (by omega)).trans ?_
   by_cases e:t=m
   ·refine .of_eq fun i j hi hj=> ?_
    by_cases h1:i<t
    ·rw[if_pos h1,if_pos (show i<t+1 by omega)]
    ·by_cases h2:i=t
     ·rw[if_neg h1,if_pos (show i<t+1 by omega),if_pos (show i=m by omega),h2,e]
     ·rw[if_neg h1,if_neg (show ¬i<t+1 by omega)]
   ·refine(REq.add (i:=t) (r:=m) (-M t k) (by omega) hm e).trans (.of_eq fun i j hi hj=> ?_)
    simp only[Zbh]
    by_cases h2:i=t
    ·subst h2
     rw[if_pos rfl,if_neg (Nat.lt_irrefl i),if_pos (Nat.lt_succ_self i),if_neg e]
     by_cases h3:m<i
     ·rw[if_pos h3,if_pos trivial];grind
     ·rw[if_neg h3];grind
    ·rw[if_neg h2]
     by_cases h1:i<t
     ·rw[if_pos h1,if_pos (show i<t+1 by omega)]
     ·rw[if_neg h1,if_neg (show ¬i<t+1 by omega)]
 exact(this n (Nat.le_refl n)).trans (.of_eq fun i j hi hj=>by rw[if_pos hi,h i j hi hj])
theorem Elm.step {n W k q:Nat} {M N N':Mx} {p:List Nat} (h:Elm n W M k p N) (hq:p.length≤q) (hqn:q<n) (hk:k<W) (hd:N q k≠0)
 (hN: ∀i j,i<n→j<W→N' i j=if i=p.length then N q j/N q k else swR N p.length q i j-swR N p.length q i k*(N q j/N q k)):Elm n W M (k+1) (p++ [k]) N':=by
 have hmn:p.length<n:=Nat.lt_of_le_of_lt hq hqn
 have hl:(p++ [k]).length=p.length+1:=by rw[List.length_append];rfl
 have sw_m: ∀j,swR N p.length q p.length j=N q j:=fun j=>if_pos rfl
 have sw_lt: ∀i j,i<p.length→swR N p.length q i j=N i j:=fun i j hi=>by
  simp only[swR];rw[if_neg (by omega),if_neg (by omega)]
 have sw_ge: ∀i,p.length<i→i<n→ ∃i',p.length≤i'∧i'<n∧ ∀j,swR N p.length q i j=N i' j:=fun i hi hin=>by
  by_cases e:i=q
  ·exact⟨p.length,Nat.le_refl _,hmn,fun j=>by simp only[swR];rw[if_neg (by omega),if_pos e]⟩
  ·exact⟨i,by omega,hin,fun j=>by simp only[swR];rw[if_neg (by omega),if_neg e]⟩
 have low:=h.ech.low
 have qlow: ∀j,j<k→N q j=0:=fun j hj=>low q j hq hqn hj
 have hdd:N q k/N q k=1:=by grind
 refine⟨?_, ?_, ?_⟩
 ·
  refine h.req.trans ((REq.sw (i:=p.length) (r:=q) hmn hqn).trans ((REq.scale (i:=p.length) (c:=(N q k)⁻¹) hmn (by grind)).trans ?_))
  refine REq.clear (m:=p.length) (k:=k) hmn fun i j hi hj=> ?_
  rw[hN i j hi hj]
  by_cases e:i=p.length
  ·subst e
   rw[if_pos rfl,if_pos rfl]
   simp only[Zbh,if_pos]
   rw[sw_m];grind
  ·rw[if_neg e,if_neg e]
   simp only[Zbh,if_pos,if_neg e]
   rw[sw_m];grind
 ·rw[hl]
  refine⟨hmn, ?_, ?_, ?_, ?_, ?_⟩
  ·intro s t hst ht
   rw[ZdG,ZdG,if_pos (show s<p.length by omega)]
   by_cases e:t<p.length
   ·rw[if_pos e];exact h.ech.inc s t hst e
   ·rw[if_neg e,if_pos (by omega)];exact h.ech.lt s (by omega)
  ·intro t ht
   rw[ZdG]
   by_cases e:t<p.length
   ·rw[if_pos e];exact Nat.lt_succ_of_lt (h.ech.lt t e)
   ·rw[if_neg e,if_pos (by omega)];exact Nat.lt_succ_self k
  ·intro t ht
   rw[ZdG]
   by_cases e:t<p.length
   ·rw[if_pos e]
    have hlt:=h.ech.lt t e
    rw[hN t _ (by omega) (by omega),if_neg (by omega),sw_lt t _ e,h.ech.one t e,qlow _ hlt];grind
   ·have e2:t=p.length:=by omega
    rw[if_neg e,if_pos e2,hN t k (by omega) hk,if_pos e2,hdd]
  ·intro i t hi ht hit
   rw[ZdG]
   by_cases e:t<p.length
   ·rw[if_pos e]
    have hlt:=h.ech.lt t e
    rw[hN i _ hi (by omega)]
    by_cases e2:i=p.length
    ·rw[if_pos e2,qlow _ hlt];grind
    ·rw[if_neg e2,qlow _ hlt]
     have:swR N p.length q i (p.getD t 0)=0:=by
      by_cases e3:i<p.length
      ·rw[sw_lt i _ e3];exact h.ech.col i t hi e hit
      ·obtain⟨i',h1,h2,h3⟩:=sw_ge i (by omega) hi
       rw[h3];exact low i' _ h1 h2 hlt
     rw[this];grind
   ·rw[if_neg e,if_pos (by omega),hN i k hi hk,if_neg (by omega),hdd];grind
  ·intro i j hi hin hj
   obtain⟨i',h1,h2,h3⟩:=sw_ge i (by omega) hin
   rw[hN i j hin (by omega),if_neg (by omega)]
   by_cases e:j=k
   ·rw[e,hdd];grind
   ·rw[h3,low i' j h1 h2 (by omega),qlow j (by omega)];grind
 ·obtain⟨ρ,hρ,hdet,hP,hE⟩:=h.kinds
  obtain⟨o,xq,ho,hxq⟩:=hE q hq hqn
  rw[hl]
  refine⟨con o ρ, ?_, ?_, ?_, ?_⟩
  ·intro u hu
   cases u with
   |zero=>exact ho
   |succ u=>exact hρ u (by omega)
  ·rw[Zbf (N:=Cm M (con o ρ) (con k (kap p))) fun i j hi hj=>by simp only[Cm];rw[Zwd hj]]
   rw[ZyL (x:=xq) fun t ht=>by rw[←hxq _ (by have:=h.kap_lt ht;omega)];exact qlow _ (h.kap_lt ht)]
   intro h0
   rcases Rat.mul_eq_zero.1 h0 with h1|h1
   ·exact hd (by rw[hxq k hk];exact h1)
   ·exact hdet h1
  ·intro i hi
   by_cases e:i=p.length
   ·refine⟨ZBa (N q k)⁻¹ (fun u=> -(N q k)⁻¹ *xq u),fun j hj=> ?_⟩
    rw[Zn8,ZxS,hN i j (by omega) hj,if_pos e,hxq j hj];grind
   ·obtain⟨x,hx⟩:=hP i (by omega)
    refine⟨ZBa (-(N i k/N q k)) (fun u=>x u+(N i k/N q k)*xq u),fun j hj=> ?_⟩
    rw[Zn8,Zti,hN i j (by omega) hj,if_neg e,sw_lt i j (by omega),sw_lt i k (by omega),←hx j hj]
    rw[show N q j=M o j-cmb p.length xq ρ M j from hxq j hj];grind
  ·intro i hi hin
   obtain⟨i',h1,h2,h3⟩:=sw_ge i (by omega) hin
   obtain⟨o',x,ho',hx⟩:=hE i' h1 h2
   refine⟨o',ZBa (N i' k/N q k) (fun u=>x u+ -(N i' k/N q k)*xq u),ho',fun j hj=> ?_⟩
   rw[Zn8,Zti,hN i j hin hj,if_neg (by omega),h3,h3]
   rw[show N q j=M o j-cmb p.length xq ρ M j from hxq j hj,show N i' j=M o' j-cmb p.length x ρ M j from hx j hj];grind
theorem ZtZ {B:Nat} (hB:1≤B) {m:Nat}: ∀n,m≤n→bd m B≤bd n B
 |0,h=>by rw[show m=0 by omega];exact Nat.le_refl _
 |n+1,h=>by
  by_cases e:m=n+1
  ·rw[e];exact Nat.le_refl _
  ·refine Nat.le_trans (ZtZ hB n (by omega)) ?_
   rw[bd]
   exact Nat.le_trans (Nat.le_mul_of_pos_left _ hB) (Nat.le_mul_of_pos_left _ (Nat.succ_pos n))
theorem Elm.size {n W k i j B:Nat} {M N:Mx} {p:List Nat} {L:Int} (h:Elm n W M k p N) (hI:Ints n W M L B) (hB:1≤B) (hk:k≤W) (hi:i<n) (hj:j<W): ∃a b:Int,b≠0∧N i j=a/b∧a.natAbs≤(n+1)*(B*bd n B)∧b.natAbs≤(n+1)*(B*bd n B):=by
 obtain⟨ρ,hρ,hdet,hP,hE⟩:=h.kinds
 have hκ: ∀t,t<p.length→kap p t<W:=fun t ht=>by have:=h.kap_lt ht;omega
 have mono:B*bd p.length B≤B*bd n B:=Nat.mul_le_mul_left _ (ZtZ hB n h.ech.mn)
 have fin:(∃a b:Int,b≠0∧N i j=a/b∧a.natAbs≤(p.length+1)*(B*bd p.length B)∧b.natAbs≤B*bd p.length B)→ ∃a b:Int,b≠0∧N i j=a/b∧a.natAbs≤(n+1)*(B*bd n B)∧b.natAbs≤(n+1)*(B*bd n B):=by
  rintro⟨a,b,h1,h2,h3,h4⟩
  refine⟨a,b,h1,h2,Nat.le_trans h3 (Nat.mul_le_mul (by have:=h.ech.mn;omega) mono),Nat.le_trans (Nat.le_trans h4 mono) (Nat.le_mul_of_pos_left _ (Nat.succ_pos n))⟩
 apply fin
 by_cases e:i<p.length
 ·obtain⟨x,hx⟩:=hP i e
  obtain⟨a,b,h1,h2,h3,h4⟩:=Zua (j:=j) (x:=x) hI hB hρ hκ hdet (fun t ht=>by
   rw[←hx _ (hκ t ht)]
   have hs:p.length-1-t<p.length:=by omega
   by_cases e2:i=p.length-1-t
   ·right;have:=h.ech.one _ hs;rw[←e2]at this;unfold kap;rw[←e2];exact this
   ·left;exact h.ech.col i _ hi hs e2) hj
  exact⟨a,b,h1,by rw[hx j hj];exact h2,h3,h4⟩
 ·obtain⟨o,x,ho,hx⟩:=hE i (by omega) hi
  obtain⟨a,b,h1,h2,h3,h4⟩:=ZwP (j:=j) (x:=x) hI hρ hκ hdet ho (fun t ht=>by
   rw[←hx _ (hκ t ht)]
   exact h.ech.low i _ (by omega) hi (h.kap_lt ht)) hj
  exact⟨a,b,h1,by rw[hx j hj];exact h2,h3,h4⟩
end La

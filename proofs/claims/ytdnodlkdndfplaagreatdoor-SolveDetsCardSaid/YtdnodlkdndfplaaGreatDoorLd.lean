/-
 Forward elimination: the determinant, and how great the numbers get: plain Lean.
-/
import Derived.Test.YtdnodlkdndfplaaGreatDoorLb
set_option linter.constructorNameAsVariable false
set_option linter.unusedSimpArgs false
set_option linter.unusedVariables false
namespace La
theorem Zsm {n r:Nat} (M:Mx) (c:Nat→Rat) (hr:r<n):det n (fun i j=>if i=r then M r j else M i j+c i*M r j)=det n M:=by
 have: ∀t,t≤n→det n (fun i j=>if i<t then(if i=r then M r j else M i j+c i*M r j)else M i j)=det n M:=by
  intro t
  induction t with
  |zero=>intro _;exact ZaG fun i j _ _=>by rw[if_neg (Nat.not_lt_zero i)]
  |succ t ih=>
   intro ht
   rw[←ih (by omega)]
   by_cases e:t=r
   ·refine ZaG fun i j hi hj=> ?_
    by_cases h1:i<t
    ·rw[if_pos h1,if_pos (show i<t+1 by omega)]
    ·by_cases h2:i=t
     ·rw[if_neg h1,if_pos (show i<t+1 by omega),if_pos (show i=r by omega),h2,e]
     ·rw[if_neg h1,if_neg (show ¬i<t+1 by omega)]
   ·rw[←ZuM (i:=t) (k:=r) (fun i j=>if i<t then(if i=r then M r j else M i j+c i*M r j)else M i j) (c t) e (by omega) hr]
    refine ZaG fun i j hi hj=> ?_
    simp only[Za8]
    by_cases h2:i=t
    ·subst h2
     rw[if_pos rfl,if_neg (Nat.lt_irrefl i),if_pos (Nat.lt_succ_self i),if_neg e]
     by_cases h3:r<i
     ·rw[if_pos h3,if_pos trivial]
     ·rw[if_neg h3]
    ·rw[if_neg h2]
     by_cases h1:i<t
     ·rw[if_pos h1,if_pos (show i<t+1 by omega)]
     ·rw[if_neg h1,if_neg (show ¬i<t+1 by omega)]
 rw[←this n (Nat.le_refl n)]
 exact ZaG fun i j hi hj=>by rw[if_pos hi]
def trl (k:Nat) (N:Mx):Mx:=fun a b=>N (k+a) (k+b)
def Quo (X:Nat) (q:Rat):Prop:= ∃a b:Int,b≠0∧q=a/b∧a.natAbs≤X∧b.natAbs≤X
structure Fwd (n:Nat) (M:Mx) (X k:Nat) (N:Mx) (d:Rat):Prop where
 le:k≤n
 low: ∀i j,k≤i→i<n→j<k→N i j=0
 val:det n M=d*det (n-k) (trl k N)
 kinds: ∃ (ρ κ:Nat→Nat) (s:Rat),(∀u,u<k→ρ u<n)∧(∀t,t<k→κ t<k)∧det k (Cm M ρ κ)≠0∧(s=1∨s= -1)∧d=s*det k (Cm M ρ κ)∧
  ∀i,k≤i→i<n→ ∃o x,o<n∧ ∀j,j<n→N i j=M o j-cmb k x ρ M j
 done: ∀i j,i<k→j<n→Quo X (N i j)
theorem Fwd.start {n X:Nat} {M N:Mx} (h: ∀i j,i<n→j<n→N i j=M i j):Fwd n M X 0 N 1:=by
 refine⟨Nat.zero_le _,fun i j _ _ h=>absurd h (Nat.not_lt_zero _), ?_,⟨fun u=>u,fun u=>u,1,fun u h=>absurd h (Nat.not_lt_zero _),fun u h=>absurd h (Nat.not_lt_zero _), ?_, .inl rfl, ?_,fun i _ hi=>⟨i,fun _=>0,hi,fun j hj=> ?_⟩⟩,fun i j h=>absurd h (Nat.not_lt_zero _)⟩
 ·rw[Nat.sub_zero,ZaG (N:=M) (M:=trl 0 N) fun i j hi hj=>by show N (0+i) (0+j)=_;rw[Nat.zero_add,Nat.zero_add,h i j hi hj]]
  grind
 ·rw[det];decide
 ·rw[det];grind
 ·rw[cmb,S,h i j hi hj];grind
theorem Fwd.sizeE {n k i j B:Nat} {M N:Mx} {X:Nat} {d:Rat} {L:Int} (h:Fwd n M X k N d) (hI:Ints n n M L B) (hB:1≤B) (hX:(n+1)*(B*bd n B)≤X) (hk:k≤i) (hi:i<n) (hj:j<n):Quo X (N i j):=by
 obtain⟨ρ,κ,s,hρ,hκ,hdet,_,_,hE⟩:=h.kinds
 obtain⟨o,x,ho,hx⟩:=hE i hk hi
 have hkn:=h.le
 obtain⟨a,b,h1,h2,h3,h4⟩:=Zpw (j:=j) (x:=x) hI hρ (fun t ht=>Nat.lt_of_lt_of_le (hκ t ht) hkn) hdet ho (fun t ht=>by
  rw[←hx _ (Nat.lt_of_lt_of_le (hκ t ht) hkn)]
  exact h.low i _ hk hi (hκ t ht)) hj
 have mono:B*bd k B≤B*bd n B:=Nat.mul_le_mul_left _ (Ziw hB n hkn)
 refine⟨a,b,h1,by rw[hx j hj];exact h2,Nat.le_trans (Nat.le_trans h3 (Nat.mul_le_mul (by omega) mono)) hX,Nat.le_trans (Nat.le_trans (Nat.le_trans h4 mono) (Nat.le_mul_of_pos_left _ (Nat.succ_pos n))) hX⟩
theorem Fwd.size {n k i j B:Nat} {M N:Mx} {X:Nat} {d:Rat} {L:Int} (h:Fwd n M X k N d) (hI:Ints n n M L B) (hB:1≤B) (hX:(n+1)*(B*bd n B)≤X) (hi:i<n) (hj:j<n):Quo X (N i j):=by
 by_cases e:i<k
 ·exact h.done i j e hj
 ·exact h.sizeE hI hB hX (by omega) hi hj
theorem Zwd {B:Nat} (hB:1≤B): ∀n,B^n≤bd n B
 |0=>Nat.le_refl 1
 |n+1=>by
  rw[bd,Nat.pow_succ,Nat.mul_comm]
  exact Nat.le_trans (Nat.mul_le_mul_left _ (Zwd hB n)) (Nat.le_mul_of_pos_left _ (Nat.succ_pos n))
theorem Zso {n k B:Nat} {M:Mx} {L:Int} {ρ κ:Nat→Nat} (hI:Ints n n M L B) (hB:1≤B) (hk:k≤n) (hρ: ∀u,u<k→ρ u<n) (hκ: ∀t,t<k→κ t<n):Quo (bd n B) (det k (Cm M ρ κ)):=by
 obtain⟨z,h1,h2⟩:=ZjT (n:=k) (M:=fun i j=>(L:Rat)*Cm M ρ κ i j) fun i j hi hj=>hI.z _ _ (hρ i hi) (hκ j hj)
 rw[Zkt]at h1
 have hL:=Zfb hI.ne
 have hp:((L^k:Int):Rat)=(L:Rat)^k:=Rat.intCast_pow L k
 refine⟨z,L^k,Int.pow_ne_zero hI.ne, ?_,Nat.le_trans h2 (Ziw hB n hk), ?_⟩
 ·rw[hp,←h1]
  have:=Zod hL k
  grind
 ·rw[Int.natAbs_pow]
  exact Nat.le_trans (Nat.le_trans (Nat.pow_le_pow_left hI.le k) (Zwd hB k)) (Ziw hB n hk)
theorem Fwd.sizeD {n k B:Nat} {M N:Mx} {X:Nat} {d:Rat} {L:Int} (h:Fwd n M X k N d) (hI:Ints n n M L B) (hB:1≤B) (hX:(n+1)*(B*bd n B)≤X):Quo X d:=by
 obtain⟨ρ,κ,s,hρ,hκ,hdet,hs,hd,_⟩:=h.kinds
 have hkn:=h.le
 obtain⟨a,b,h1,h2,h3,h4⟩:=Zso hI hB hkn hρ (fun t ht=>Nat.lt_of_lt_of_le (hκ t ht) hkn)
 have mono:bd n B≤X:=Nat.le_trans (Nat.le_trans (Nat.le_mul_of_pos_left _ hB) (Nat.le_mul_of_pos_left _ (Nat.succ_pos n))) hX
 rcases hs with rfl|rfl
 ·exact⟨a,b,h1,by rw[hd,h2];grind,Nat.le_trans h3 mono,Nat.le_trans h4 mono⟩
 ·exact⟨-a,b,h1,by rw[hd,h2,Rat.intCast_neg];grind,by rw[Int.natAbs_neg];exact Nat.le_trans h3 mono,Nat.le_trans h4 mono⟩
theorem Fwd.none {n X k:Nat} {M N:Mx} {d:Rat} (h:Fwd n M X k N d) (hk:k<n) (hz: ∀i,k≤i→i<n→N i k=0):det n M=0:=by
 rw[h.val]
 obtain⟨m,e⟩: ∃m,n-k=m+1:=⟨n-k-1,by omega⟩
 rw[e,ZsG fun i _ hi=>hz _ (by omega) (by omega)]
 show d*(N (k+0) (k+0)*_)=0
 rw[Nat.add_zero,hz k (Nat.le_refl k) hk];grind
theorem Fwd.last {n X:Nat} {M N:Mx} {d:Rat} (h:Fwd n M X n N d):det n M=d:=by
 rw[h.val,Nat.sub_self,det];grind
theorem Fwd.step {n X k q B:Nat} {M N N':Mx} {d d':Rat} {L:Int} (h:Fwd n M X k N d) (hI:Ints n n M L B) (hB:1≤B) (hX:(n+1)*(B*bd n B)≤X) (hq:k≤q) (hqn:q<n) (hp:N q k≠0)
 (hN: ∀i j,i<n→j<n→N' i j=if i<k then N i j else if i=k then N q j else swR N k q i j-swR N k q i k/N q k*N q j) (hd':d'=(if q=k then d else-d)*N q k):Fwd n M X (k+1) N' d':=by
 have hkn:k<n:=by omega
 have sw_ge: ∀i,k<i→i<n→ ∃i',k≤i'∧i'<n∧ ∀j,swR N k q i j=N i' j:=fun i hi hin=>by
  by_cases e:i=q
  ·exact⟨k,Nat.le_refl _,hkn,fun j=>by simp only[swR];rw[if_neg (by omega),if_pos e]⟩
  ·exact⟨i,by omega,hin,fun j=>by simp only[swR];rw[if_neg (by omega),if_neg e]⟩
 have hrow: ∀i,k<i→i<n→ ∃i',k≤i'∧i'<n∧ ∀j,j<n→N' i j=N i' j-N i' k/N q k*N q j:=fun i hi hin=>by
  obtain⟨i',h1,h2,h3⟩:=sw_ge i hi hin
  exact⟨i',h1,h2,fun j hj=>by rw[hN i j hin hj,if_neg (by omega),if_neg (by omega),h3,h3]⟩
 refine⟨hkn, ?_, ?_, ?_, ?_⟩
 ·intro i j hi hin hj
  obtain⟨i',h1,h2,h3⟩:=hrow i (by omega) hin
  rw[h3 j (by omega)]
  by_cases e:j=k
  ·rw[e];grind
  ·rw[h.low i' j h1 h2 (by omega),h.low q j hq hqn (by omega)];grind
 ·obtain⟨m,e⟩: ∃m,n-k=m+1:=⟨n-k-1,by omega⟩
  have e2:n-(k+1)=m:=by omega
  have hv:=h.val
  rw[e]at hv
  rw[e2,hv,hd']
  have s1:det (m+1) (trl k N)=(if q=k then 1 else-1)*det (m+1) (trl k (swR N k q)):=by
   by_cases eq:q=k
   ·rw[if_pos eq,ZaG (M:=trl k (swR N k q)) (N:=trl k N) fun a b _ _=>by
     simp only[trl,swR];rw[eq];split
     ·rename_i h;rw[h]
     ·rfl]
    grind
   ·have:det (m+1) (trl k (swR N k q))=det (m+1) (swR (trl k N) 0 (q-k)):=ZaG fun a b _ _=>by
     simp only[trl,swR]
     by_cases ha:a=0
     ·rw[if_pos (by omega),if_pos ha];congr 1;omega
     ·by_cases hb:a=q-k
      ·rw[if_neg (by omega),if_pos (by omega),if_neg ha,if_pos hb];rfl
      ·rw[if_neg (by omega),if_neg (by omega),if_neg ha,if_neg hb]
    rw[if_neg eq,this,Zyn _ (by omega) (by omega) (by omega)];grind
  have s2:det (m+1) (trl k N')=det (m+1) (trl k (swR N k q)):=by
   rw[←Zsm (r:=0) (trl k (swR N k q)) (fun a=> -(swR N k q (k+a) k/N q k)) (by omega)]
   refine ZaG fun a b ha hb=> ?_
   have t0:trl k (swR N k q) 0 b=N q (k+b):=by show swR N k q (k+0) (k+b)=_;exact if_pos rfl
   show N' (k+a) (k+b)=_
   rw[hN _ _ (by omega) (by omega),if_neg (by omega)]
   by_cases e0:a=0
   ·rw[if_pos (by omega),if_pos e0,t0]
   ·rw[if_neg (by omega),if_neg e0,t0]
    show _=swR N k q (k+a) (k+b)+_
    grind
  have s3:det (m+1) (trl k N')=N q k*det m (trl (k+1) N'):=by
   rw[ZsG fun i h0 hi=>by
    obtain⟨i',h1,h2,h3⟩:=hrow (k+i) (by omega) (by omega)
    show N' (k+i) (k+0)=0
    rw[Nat.add_zero,h3 k hkn];grind]
   have t0:trl k N' 0 0=N q k:=by show N' (k+0) (k+0)=_;rw[Nat.add_zero,hN k k hkn hkn,if_neg (Nat.lt_irrefl k),if_pos rfl]
   rw[t0]
   congr 1
   refine ZaG fun a b _ _=> ?_
   show N' (k+(a+1)) (k+sk 0 b)=N' (k+1+a) (k+1+b)
   rw[show sk 0 b=b+1 from if_neg (Nat.not_lt_zero b)]
   congr 1<;>omega
  rw[s1,←s2,s3]
  by_cases eq:q=k
  ·rw[if_pos eq,if_pos eq];grind
  ·rw[if_neg eq,if_neg eq];grind
 ·obtain⟨ρ,κ,s,hρ,hκ,hdet,hs,hd,hE⟩:=h.kinds
  obtain⟨o,xq,ho,hxq⟩:=hE q hq hqn
  have hC:det (k+1) (Cm M (con o ρ) (con k κ))=N q k*det k (Cm M ρ κ):=by
   rw[ZqF (x:=xq) fun t ht=>by rw[←hxq _ (by have:=hκ t ht;omega)];exact h.low q _ hq hqn (hκ t ht),hxq k hkn]
  refine⟨con o ρ,con k κ,if q=k then s else-s, ?_, ?_, ?_, ?_, ?_, ?_⟩
  ·intro u hu
   cases u with
   |zero=>exact ho
   |succ u=>exact hρ u (by omega)
  ·intro t ht
   cases t with
   |zero=>exact Nat.lt_succ_self k
   |succ t=>exact Nat.lt_succ_of_lt (hκ t (by omega))
  ·rw[hC]
   intro h0
   rcases Rat.mul_eq_zero.1 h0 with h1|h1
   ·exact hp h1
   ·exact hdet h1
  ·by_cases eq:q=k
   ·rw[if_pos eq];exact hs
   ·rw[if_neg eq]
    rcases hs with rfl|rfl
    ·exact .inr rfl
    ·left;decide
  ·rw[hC,hd',hd]
   by_cases eq:q=k
   ·rw[if_pos eq,if_pos eq];grind
   ·rw[if_neg eq,if_neg eq];grind
  ·intro i hi hin
   obtain⟨i',h1,h2,h3⟩:=hrow i (by omega) hin
   obtain⟨o',x,ho',hx⟩:=hE i' h1 h2
   refine⟨o',Zzc (N i' k/N q k) (fun u=>x u+ -(N i' k/N q k)*xq u),ho',fun j hj=> ?_⟩
   rw[ZkO,Znh,h3 j hj]
   rw[show N q j=M o j-cmb k xq ρ M j from hxq j hj,show N i' j=M o' j-cmb k x ρ M j from hx j hj];grind
 ·intro i j hi hj
  rw[hN i j (by omega) hj]
  by_cases e:i<k
  ·rw[if_pos e];exact h.done i j e hj
  ·rw[if_neg e,if_pos (by omega)]
   exact h.sizeE hI hB hX hq hqn hj
end La

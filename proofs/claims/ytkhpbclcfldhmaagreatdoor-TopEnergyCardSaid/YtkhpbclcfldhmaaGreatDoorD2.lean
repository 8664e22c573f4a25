/-
 Long division by words: what a round leaves.
-/
import Derived.Test.YtkhpbclcfldhmaaGreatDoorT3
set_option linter.constructorNameAsVariable false
set_option linter.unusedSimpArgs false
set_option linter.unusedVariables false
namespace Dv
theorem wvn {l:List Int} (h:Wd l):0≤wv l:=(Za7 h).1
theorem Wd.take {l:List Int} (h:Wd l) (n:Nat):Wd (l.take n):=fun x hx=>h x (List.mem_of_mem_take hx)
theorem Wd.drop {l:List Int} (h:Wd l) (n:Nat):Wd (l.drop n):=fun x hx=>h x (List.mem_of_mem_drop hx)
theorem ZvI (n:Nat):(0:Int)<4294967296^n:=Int.pow_pos (by decide)
theorem seg (l:List Int) (j:Nat) (hj:j≤l.length):wv l=wv (l.take j)+4294967296^j*wv (l.drop j):=by
 conv=>lhs;rw[←List.take_append_drop j l]
 rw[Zdy,List.length_take,Nat.min_eq_left hj]
theorem Zcs {l:List Int} {k:Nat} (h:k<l.length):wv (l.drop k)=l[k]+4294967296*wv (l.drop (k+1)):=by
 rw[List.drop_eq_getElem_cons h];rfl
theorem ZiT {l:List Int} {n:Nat} (hw:Wd l) (h:wv l<4294967296^n):wv (l.drop n)=0:=by
 rcases Nat.lt_or_ge l.length n with h1|h1
 ·rw[List.drop_of_length_le (by omega)];rfl
 ·have h2:=seg l n h1
  have h3:=wvn (hw.take n)
  have h4:=wvn (hw.drop n)
  rcases Int.lt_or_le (wv (l.drop n)) 1 with h5|h5
  ·omega
  ·have h6:=Int.mul_le_mul_of_nonneg_left h5 (Int.le_of_lt (ZvI n))
   omega
theorem ZsF {l:List Int} {n:Nat} (hw:Wd l) (h:wv (l.drop n)=0):wv l<4294967296^n:=by
 rcases Nat.lt_or_ge l.length n with h1|h1
 ·have:=(Za7 hw).2
  have h2:(4294967296:Int)^l.length≤4294967296^n:=ZgC (b:=4294967296) (by decide) (by omega)
  omega
 ·have h2:=seg l n h1
  rw[h]at h2
  have h3:=(Za7 (hw.take n)).2
  rw[List.length_take,Nat.min_eq_left h1]at h3
  omega
theorem Zrk {V:List Int} {n:Nat} (hn:2≤n) (hV:n≤V.length):wv (V.take n)=(V[n-1]'(by omega)*4294967296+V[n-2]'(by omega))*4294967296^(n-2)+wv (V.take (n-2)):=by
 obtain⟨k,rfl⟩: ∃k,n=k+2:=⟨n-2,by omega⟩
 rw[Zbx (show k+1<V.length by omega),Zbx (show k<V.length by omega),Int.pow_succ]
 simp only[Nat.add_sub_cancel,show k+2-1=k+1 by omega]
 generalize V[k+1]=x
 generalize V[k]=y
 generalize(4294967296:Int)^k=p
 grind
theorem ZqZ {u:List Int} {n j:Nat} (hn:2≤n) (hu:j+n<u.length) (hw:Wd u) (hz:wv (u.drop (j+n+1))=0):
 wv (u.drop j)=((u[j+n]*4294967296+u[j+n-1]'(by omega))*4294967296+u[j+n-2]'(by omega))*4294967296^(n-2)+wv ((u.drop j).take (n-2)):=by
 obtain⟨k,rfl⟩: ∃k,n=k+2:=⟨n-2,by omega⟩
 rw[seg (u.drop j) k (by rw[List.length_drop];omega),List.drop_drop,Zcs (show j+k<u.length by omega),Zcs (show j+k+1<u.length by omega),Zcs (show j+k+1+1<u.length by omega),show j+k+1+1+1=j+(k+2)+1 by omega,hz]
 simp only[Nat.add_sub_cancel,show j+(k+2)-1=j+k+1 by omega,show j+(k+2)-2=j+k by omega,show j+(k+2)=j+k+1+1 by omega]
 obtain⟨x,hx⟩: ∃x,u[j+k+1+1]'(by omega)=x:=⟨_,rfl⟩
 obtain⟨y,hy⟩: ∃y,u[j+k+1]'(by omega)=y:=⟨_,rfl⟩
 obtain⟨z,hz⟩: ∃z,u[j+k]'(by omega)=z:=⟨_,rfl⟩
 simp only[hx,hy,hz]
 generalize(4294967296:Int)^k=p
 grind
theorem Zxg {U D top u2 v1 v2 P U' V':Int} (hP:0<P) (eD:D=(v1*4294967296+v2)*P+V') (hV1:V'<P) (b2':v2<4294967296) (eU:U=(top*4294967296+u2)*P+U') (hU0:0≤U') (c0:0≤u2) (hUD:U<D*4294967296):top<(v1+1)*4294967296:=by
 have h1:D<(v1+1)*4294967296*P:=by
  have:(v2+1)*P≤4294967296*P:=Int.mul_le_mul_of_nonneg_right (by omega) (Int.le_of_lt hP)
  have e:(v1+1)*4294967296*P=v1*4294967296*P+4294967296*P:=by grind
  have e2:(v1*4294967296+v2)*P=v1*4294967296*P+v2*P:=by grind
  have e3:(v2+1)*P=v2*P+P:=by grind
  omega
 have h2:top*(4294967296*P)<(v1+1)*4294967296*(4294967296*P):=by
  have e:(top*4294967296+u2)*P=top*(4294967296*P)+u2*P:=by grind
  have:0≤u2*P:=Int.mul_nonneg c0 (Int.le_of_lt hP)
  have e2:(v1+1)*4294967296*(4294967296*P)=(v1+1)*4294967296*P*4294967296:=by grind
  omega
 exact Int.lt_of_mul_lt_mul_right h2 (by omega)
theorem ZsU {u u':List Int} {j n:Nat} {g D bo ca z b2:Int} (hl:u'.length=u.length) (hj:j+n<u.length) (ht:u'.take j=u.take j) (hz:u'[j+n]'(by omega)=z) (hb:b2=bo+(z-ca))
 (h:wv u'+4294967296^(j+n)*bo=wv u-4294967296^j*(g*D)+4294967296^(j+n)*ca):
 wv ((u'.set (j+n) (b2 % 4294967296)).drop j)+4294967296^(n+1)*(b2/4294967296)=wv (u.drop j)-g*D:=by
 have h1:=seg u j (by omega)
 have h2:=seg (u'.set (j+n) (b2 % 4294967296)) j (by rw[List.length_set];omega)
 rw[List.take_set_of_le (by omega),ht,ZoO (by omega),hz]at h2
 have e1:=Int.emod_add_mul_ediv b2 4294967296
 have x1:b2 % 4294967296=b2-4294967296*(b2/4294967296):=by omega
 have e3:(4294967296:Int)^(j+n)=4294967296^j*4294967296^n:=Int.pow_add ..
 have e4:(4294967296:Int)^(n+1)=4294967296^n*4294967296:=Int.pow_succ ..
 generalize wv ((u'.set (j+n) (b2 % 4294967296)).drop j)=X at*
 rw[e3]at h h2
 rw[x1]at h2
 rw[e4]
 have hp:=ZvI j
 generalize(4294967296:Int)^j=p at*
 generalize(4294967296:Int)^n=r at*
 generalize b2/4294967296=y at*
 have:p*(X+r*4294967296*y)=p*(wv (u.drop j)-g*D):=by grind
 exact Int.eq_of_mul_eq_mul_left (by omega) this
theorem ZsP {u u':List Int} {j n:Nat} {D c z y:Int} (hl:u'.length=u.length) (hj:j+n<u.length) (ht:u'.take j=u.take j) (hz:u'[j+n]'(by omega)=z) (hy:y=z+c)
 (h:wv u'+4294967296^(j+n)*c=wv u+4294967296^j*D):
 wv ((u'.set (j+n) (y % 4294967296)).drop j)+4294967296^(n+1)*(y/4294967296)=wv (u.drop j)+D:=by
 have:=ZsU (g:= -1) (D:=D) (bo:=c) (ca:=0) (b2:=y) hl hj ht hz (by omega) (by
  rw[h,Int.neg_mul,Int.one_mul,Int.mul_neg,Int.mul_zero];omega)
 rw[this];omega
theorem Zsd {b V:List Int} {n s:Nat} {x:Int} (hn:2≤n) (hb:b.length=n) (hwb:Wd b) (hx:b[n-1]? =some x) (hs:s≤31) (h1:x*2^s<4294967296) (h2:2147483648≤x*2^s) (hV:V.length=n+1) (hwV:Wd V) (hv:wv V=wv b*2^s):
 wv (V.take n)=wv b*2^s∧2147483648≤V[n-1]'(by omega)∧4294967296^(n-1)*2147483648≤wv b*2^s:=by
 obtain⟨k,rfl⟩: ∃k,n=k+1:=⟨n-1,by omega⟩
 simp only[Nat.add_sub_cancel]at hx⊢
 obtain⟨hk,hx⟩:=List.getElem?_eq_some_iff.1 hx
 have hp:(0:Int)<2^s:=Int.pow_pos (by decide)
 have hE:(0:Int)<2^(32-s):=Int.pow_pos (by decide)
 have e32:(4294967296:Int)=2^s*2^(32-s):=by rw[←Int.pow_add,show s+(32-s)=32 by omega];rfl
 have hb1:wv b=wv (b.take k)+4294967296^k*x:=by
  have:=Zbx hk
  rw[List.take_of_length_le (by omega),hx]at this
  exact this
 have hbt:=Za7 (hwb.take k)
 rw[List.length_take,Nat.min_eq_left (by omega)]at hbt
 have hpk:=ZvI k
 have hxE:(x+1)*2^s≤4294967296:=by
  have h3:x<2^(32-s):=by
   rw[e32,Int.mul_comm]at h1
   exact Int.lt_of_mul_lt_mul_left h1 (Int.le_of_lt hp)
  rw[e32,Int.mul_comm]
  exact Int.mul_le_mul_of_nonneg_left (by omega) (Int.le_of_lt hp)
 have hlow:4294967296^k*2147483648≤wv b*2^s:=by
  have h3:=Int.mul_le_mul_of_nonneg_left h2 (Int.le_of_lt hpk)
  have h4:0≤wv (b.take k)*2^s:=Int.mul_nonneg hbt.1 (Int.le_of_lt hp)
  have h5:wv b*2^s=wv (b.take k)*2^s+4294967296^k*(x*2^s):=by rw[hb1];grind
  omega
 have hup:wv b*2^s<4294967296^(k+1):=by
  have h3:wv b<4294967296^k*(x+1):=by rw[Int.mul_add];omega
  have h4:=Int.mul_lt_mul_of_pos_right h3 hp
  have h5:=Int.mul_le_mul_of_nonneg_left hxE (Int.le_of_lt hpk)
  rw[Int.mul_assoc]at h4
  rw[Int.pow_succ]
  omega
 have hz:=ZiT (n:=k+1) hwV (by rw[hv];exact hup)
 have hVt:wv (V.take (k+1))=wv b*2^s:=by
  have:=seg V (k+1) (by omega)
  rw[hz,Int.mul_zero,Int.add_zero]at this
  rw[←this,hv]
 refine⟨hVt, ?_,hlow⟩
 have hkV:k<V.length:=by omega
 have h6:=Zbx hkV
 have h7:=Za7 (hwV.take k)
 rw[List.length_take,Nat.min_eq_left (by omega)]at h7
 rw[hVt]at h6
 have h8:4294967296^k*2147483648<4294967296^k*(V[k]+1):=by rw[Int.mul_add];omega
 have:=Int.lt_of_mul_lt_mul_left h8 (Int.le_of_lt hpk)
 omega
theorem ZqY {a u:List Int} {m k s n:Nat} (ha:a.length=m) (hwa:Wd a) (hs:s≤31) (hu:u.length=m+1) (hwu:Wd u) (hv:wv u=wv a*2^s) (hk:k+n=m+1) (hn:1≤n) {D:Int} (hD:4294967296^(n-1)*2147483648≤D):wv (u.drop k)<D:=by
 have hp:(0:Int)<2^s:=Int.pow_pos (by decide)
 have hp2:(2:Int)^s≤2^31:=ZgC (b:=2) (by decide) hs
 have h1:=seg u k (by omega)
 have h2:=wvn (hwu.take k)
 have h3:=(Za7 hwa).2
 rw[ha]at h3
 have h4:=Int.mul_lt_mul_of_pos_right h3 hp
 have e1:(4294967296:Int)^m=4294967296^k*4294967296^(n-1):=by rw[←Int.pow_add,show k+(n-1)=m by omega]
 rw[e1,Int.mul_assoc]at h4
 have h5:4294967296^k*wv (u.drop k)<4294967296^k*(4294967296^(n-1)*2^s):=by omega
 have h6:=Int.lt_of_mul_lt_mul_left h5 (Int.le_of_lt (ZvI k))
 have h7:=Int.mul_le_mul_of_nonneg_left hp2 (Int.le_of_lt (ZvI (n-1)))
 have e2:(2:Int)^31=2147483648:=rfl
 rw[e2]at h7
 omega
theorem Zqu {A B Q R:Int} {s:Nat} (hB:0<B) (h:A*2^s=B*2^s*Q+R) (h0:0≤R) (h1:R<B*2^s):Q=A/B∧R/2^s=A % B:=by
 have hp:(0:Int)<2^s:=Int.pow_pos (by decide)
 generalize(2:Int)^s=t at*
 have hR:R=(A-B*Q)*t:=by grind
 have h2:0≤A-B*Q:=by
  rcases Int.lt_or_le (A-B*Q) 0 with h3|h3
  ·have:=Int.mul_lt_mul_of_pos_right h3 hp
   rw[Int.zero_mul]at this
   omega
  ·exact h3
 have h3:A-B*Q<B:=by
  rw[hR]at h1
  exact Int.lt_of_mul_lt_mul_right h1 (Int.le_of_lt hp)
 have hq:A/B=Q:=by
  have:=Int.add_mul_ediv_left (A-B*Q) Q (show B≠0 by omega)
  rw[Int.ediv_eq_zero_of_lt h2 h3,show A-B*Q+B*Q=A by omega]at this
  omega
 refine⟨hq.symm, ?_⟩
 rw[hR,Int.mul_ediv_cancel _ (by omega)]
 have:=Int.emod_add_mul_ediv A B
 rw[hq]at this
 omega
end Dv

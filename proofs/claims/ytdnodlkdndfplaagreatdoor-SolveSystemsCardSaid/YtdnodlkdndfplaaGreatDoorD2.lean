/-
 Long division by words: what a round leaves.
-/
import Derived.Test.YtdnodlkdndfplaaGreatDoorT11
set_option linter.constructorNameAsVariable false
set_option linter.unusedSimpArgs false
set_option linter.unusedVariables false
namespace Dv
theorem wvn {l:List Int} (h:Wd l):0≤wv l:=(Za1 h).1
theorem Wd.take {l:List Int} (h:Wd l) (n:Nat):Wd (l.take n):=fun x hx=>h x (List.mem_of_mem_take hx)
theorem Wd.drop {l:List Int} (h:Wd l) (n:Nat):Wd (l.drop n):=fun x hx=>h x (List.mem_of_mem_drop hx)
theorem ZxW (n:Nat):(0:Int)<4294967296^n:=Int.pow_pos (by decide)
theorem seg (l:List Int) (j:Nat) (hj:j≤l.length):wv l=wv (l.take j)+4294967296^j*wv (l.drop j):=by
 conv=>lhs;rw[←List.take_append_drop j l]
 rw[ZdM,List.length_take,Nat.min_eq_left hj]
theorem Zcx {l:List Int} {k:Nat} (h:k<l.length):wv (l.drop k)=l[k]+4294967296*wv (l.drop (k+1)):=by
 rw[List.drop_eq_getElem_cons h];rfl
theorem Zi3 {l:List Int} {n:Nat} (hw:Wd l) (h:wv l<4294967296^n):wv (l.drop n)=0:=by
 rcases Nat.lt_or_ge l.length n with h1|h1
 ·rw[List.drop_of_length_le (by omega)];rfl
 ·have h2:=seg l n h1
  have h3:=wvn (hw.take n)
  have h4:=wvn (hw.drop n)
  rcases Int.lt_or_le (wv (l.drop n)) 1 with h5|h5
  ·omega
  ·have h6:=Int.mul_le_mul_of_nonneg_left h5 (Int.le_of_lt (ZxW n))
   omega
theorem Zsr {l:List Int} {n:Nat} (hw:Wd l) (h:wv (l.drop n)=0):wv l<4294967296^n:=by
 rcases Nat.lt_or_ge l.length n with h1|h1
 ·have:=(Za1 hw).2
  have h2:(4294967296:Int)^l.length≤4294967296^n:=ZgL (b:=4294967296) (by decide) (by omega)
  omega
 ·have h2:=seg l n h1
  rw[h]at h2
  have h3:=(Za1 (hw.take n)).2
  rw[List.length_take,Nat.min_eq_left h1]at h3
  omega
theorem Ztr {V:List Int} {n:Nat} (hn:2≤n) (hV:n≤V.length):wv (V.take n)=(V[n-1]'(by omega)*4294967296+V[n-2]'(by omega))*4294967296^(n-2)+wv (V.take (n-2)):=by
 obtain⟨k,rfl⟩: ∃k,n=k+2:=⟨n-2,by omega⟩
 rw[ZbF (show k+1<V.length by omega),ZbF (show k<V.length by omega),Int.pow_succ]
 simp only[Nat.add_sub_cancel,show k+2-1=k+1 by omega]
 generalize V[k+1]=x
 generalize V[k]=y
 generalize(4294967296:Int)^k=p
 grind
theorem ZsB {u:List Int} {n j:Nat} (hn:2≤n) (hu:j+n<u.length) (hw:Wd u) (hz:wv (u.drop (j+n+1))=0):
 wv (u.drop j)=((u[j+n]*4294967296+u[j+n-1]'(by omega))*4294967296+u[j+n-2]'(by omega))*4294967296^(n-2)+wv ((u.drop j).take (n-2)):=by
 obtain⟨k,rfl⟩: ∃k,n=k+2:=⟨n-2,by omega⟩
 rw[seg (u.drop j) k (by rw[List.length_drop];omega),List.drop_drop,Zcx (show j+k<u.length by omega),Zcx (show j+k+1<u.length by omega),Zcx (show j+k+1+1<u.length by omega),show j+k+1+1+1=j+(k+2)+1 by omega,hz]
 simp only[Nat.add_sub_cancel,show j+(k+2)-1=j+k+1 by omega,show j+(k+2)-2=j+k by omega,show j+(k+2)=j+k+1+1 by omega]
 obtain⟨x,hx⟩: ∃x,u[j+k+1+1]'(by omega)=x:=⟨_,rfl⟩
 obtain⟨y,hy⟩: ∃y,u[j+k+1]'(by omega)=y:=⟨_,rfl⟩
 obtain⟨z,hz⟩: ∃z,u[j+k]'(by omega)=z:=⟨_,rfl⟩
 simp only[hx,hy,hz]
 generalize(4294967296:Int)^k=p
 grind
theorem ZzE {U D top u2 v1 v2 P U' V':Int} (hP:0<P) (eD:D=(v1*4294967296+v2)*P+V') (hV1:V'<P) (b2':v2<4294967296) (eU:U=(top*4294967296+u2)*P+U') (hU0:0≤U') (c0:0≤u2) (hUD:U<D*4294967296):top<(v1+1)*4294967296:=by
 have h1:D<(v1+1)*4294967296*P:=by
  have:(v2+1)*P≤4294967296*P:=Int.mul_le_mul_of_nonneg_right (by omega) (Int.le_of_lt hP)
  have e:(v1+1)*4294967296*P=v1*4294967296*P+4294967296*P:=by grind
  have e2:(v1*4294967296+v2)*P=v1*4294967296*P+v2*P:=by grind
  have e3:(v2+1)*P=v2*P+P:=by grind
  omega
 have h2:top*(4294967296*P)<(v1+1)*4294967296*(4294967296*P):=by
  have e:(top*4294967296+u2)*P=top*(4294967296*P)+u2*P:=by grind
  have:0≤u2*P:=Int.mul_nonneg c0 (Int.le_of_lt hP)
  have e2:(v1+1)*4294967296*(4294967296*P)=(v1+1)*4294967296*P*4294967296:=by grind
  omega
 exact Int.lt_of_mul_lt_mul_right h2 (by omega)
theorem Zs5 {u u':List Int} {j n:Nat} {g D bo ca z b2:Int} (hl:u'.length=u.length) (hj:j+n<u.length) (ht:u'.take j=u.take j) (hz:u'[j+n]'(by omega)=z) (hb:b2=bo+(z-ca))
 (h:wv u'+4294967296^(j+n)*bo=wv u-4294967296^j*(g*D)+4294967296^(j+n)*ca):
 wv ((u'.set (j+n) (b2 % 4294967296)).drop j)+4294967296^(n+1)*(b2/4294967296)=wv (u.drop j)-g*D:=by
 have h1:=seg u j (by omega)
 have h2:=seg (u'.set (j+n) (b2 % 4294967296)) j (by rw[List.length_set];omega)
 rw[List.take_set_of_le (by omega),ht,Zpm (by omega),hz]at h2
 have e1:=Int.emod_add_mul_ediv b2 4294967296
 have x1:b2 % 4294967296=b2-4294967296*(b2/4294967296):=by omega
 have e3:(4294967296:Int)^(j+n)=4294967296^j*4294967296^n:=Int.pow_add ..
 have e4:(4294967296:Int)^(n+1)=4294967296^n*4294967296:=Int.pow_succ ..
 generalize wv ((u'.set (j+n) (b2 % 4294967296)).drop j)=X at*
 rw[e3]at h h2
 rw[x1]at h2
 rw[e4]
 have hp:=ZxW j
 generalize(4294967296:Int)^j=p at*
 generalize(4294967296:Int)^n=r at*
 generalize b2/4294967296=y at*
 have:p*(X+r*4294967296*y)=p*(wv (u.drop j)-g*D):=by grind
 exact Int.eq_of_mul_eq_mul_left (by omega) this
theorem ZtG {u u':List Int} {j n:Nat} {D c z y:Int} (hl:u'.length=u.length) (hj:j+n<u.length) (ht:u'.take j=u.take j) (hz:u'[j+n]'(by omega)=z) (hy:y=z+c)
 (h:wv u'+4294967296^(j+n)*c=wv u+4294967296^j*D):
 wv ((u'.set (j+n) (y % 4294967296)).drop j)+4294967296^(n+1)*(y/4294967296)=wv (u.drop j)+D:=by
 have:=Zs5 (g:= -1) (D:=D) (bo:=c) (ca:=0) (b2:=y) hl hj ht hz (by omega) (by
  rw[h,Int.neg_mul,Int.one_mul,Int.mul_neg,Int.mul_zero];omega)
 rw[this];omega
theorem Zux {b V:List Int} {n s:Nat} {x:Int} (hn:2≤n) (hb:b.length=n) (hwb:Wd b) (hx:b[n-1]? =some x) (hs:s≤31) (h1:x*2^s<4294967296) (h2:2147483648≤x*2^s) (hV:V.length=n+1) (hwV:Wd V) (hv:wv V=wv b*2^s):
 wv (V.take n)=wv b*2^s∧2147483648≤V[n-1]'(by omega)∧4294967296^(n-1)*2147483648≤wv b*2^s:=by
 obtain⟨k,rfl⟩: ∃k,n=k+1:=⟨n-1,by omega⟩
 simp only[Nat.add_sub_cancel]at hx⊢
 obtain⟨hk,hx⟩:=List.getElem?_eq_some_iff.1 hx
 have hp:(0:Int)<2^s:=Int.pow_pos (by decide)
 have hE:(0:Int)<2^(32-s):=Int.pow_pos (by decide)
 have e32:(4294967296:Int)=2^s*2^(32-s):=by rw[←Int.pow_add,show s+(32-s)=32 by omega];rfl
 have hb1:wv b=wv (b.take k)+4294967296^k*x:=by
  have:=ZbF hk
  rw[List.take_of_length_le (by omega),hx]at this
  exact this
 have hbt:=Za1 (hwb.take k)
 rw[List.length_take,Nat.min_eq_left (by omega)]at hbt
 have hpk:=ZxW k
 have hxE:(x+1)*2^s≤4294967296:=by
  have h3:x<2^(32-s):=by
   rw[e32,Int.mul_comm]at h1
   exact Int.lt_of_mul_lt_mul_left h1 (Int.le_of_lt hp)
  rw[e32,Int.mul_comm]
  exact Int.mul_le_mul_of_nonneg_left (by omega) (Int.le_of_lt hp)
 have hlow:4294967296^k*2147483648≤wv b*2^s:=by
  have h3:=Int.mul_le_mul_of_nonneg_left h2 (Int.le_of_lt hpk)
  have h4:0≤wv (b.take k)*2^s:=Int.mul_nonneg hbt.1 (Int.le_of_lt hp)
  have h5:wv b*2^s=wv (b.take k)*2^s+4294967296^k*(x*2^s):=by rw[hb1];grind
  omega
 have hup:wv b*2^s<4294967296^(k+1):=by
  have h3:wv b<4294967296^k*(x+1):=by rw[Int.mul_add];omega
  have h4:=Int.mul_lt_mul_of_pos_right h3 hp
  have h5:=Int.mul_le_mul_of_nonneg_left hxE (Int.le_of_lt hpk)
  rw[Int.mul_assoc]at h4
  rw[Int.pow_succ]
  omega
 have hz:=Zi3 (n:=k+1) hwV (by rw[hv];exact hup)
 have hVt:wv (V.take (k+1))=wv b*2^s:=by
  have:=seg V (k+1) (by omega)
  rw[hz,Int.mul_zero,Int.add_zero]at this
  rw[←this,hv]
 refine⟨hVt, ?_,hlow⟩
 have hkV:k<V.length:=by omega
 have h6:=ZbF hkV
 have h7:=Za1 (hwV.take k)
 rw[List.length_take,Nat.min_eq_left (by omega)]at h7
 rw[hVt]at h6
 have h8:4294967296^k*2147483648<4294967296^k*(V[k]+1):=by rw[Int.mul_add];omega
 have:=Int.lt_of_mul_lt_mul_left h8 (Int.le_of_lt hpk)
 omega
theorem Zt9 {a u:List Int} {m k s n:Nat} (ha:a.length=m) (hwa:Wd a) (hs:s≤31) (hu:u.length=m+1) (hwu:Wd u) (hv:wv u=wv a*2^s) (hk:k+n=m+1) (hn:1≤n) {D:Int} (hD:4294967296^(n-1)*2147483648≤D):wv (u.drop k)<D:=by
 have hp:(0:Int)<2^s:=Int.pow_pos (by decide)
 have hp2:(2:Int)^s≤2^31:=ZgL (b:=2) (by decide) hs
 have h1:=seg u k (by omega)
 have h2:=wvn (hwu.take k)
 have h3:=(Za1 hwa).2
 rw[ha]at h3
 have h4:=Int.mul_lt_mul_of_pos_right h3 hp
 have e1:(4294967296:Int)^m=4294967296^k*4294967296^(n-1):=by rw[←Int.pow_add,show k+(n-1)=m by omega]
 rw[e1,Int.mul_assoc]at h4
 have h5:4294967296^k*wv (u.drop k)<4294967296^k*(4294967296^(n-1)*2^s):=by omega
 have h6:=Int.lt_of_mul_lt_mul_left h5 (Int.le_of_lt (ZxW k))
 have h7:=Int.mul_le_mul_of_nonneg_left hp2 (Int.le_of_lt (ZxW (n-1)))
 have e2:(2:Int)^31=2147483648:=rfl
 rw[e2]at h7
 omega
theorem Zrl {A B Q R:Int} {s:Nat} (hB:0<B) (h:A*2^s=B*2^s*Q+R) (h0:0≤R) (h1:R<B*2^s):Q=A/B∧R/2^s=A % B:=by
 have hp:(0:Int)<2^s:=Int.pow_pos (by decide)
 generalize(2:Int)^s=t at*
 have hR:R=(A-B*Q)*t:=by grind
 have h2:0≤A-B*Q:=by
  rcases Int.lt_or_le (A-B*Q) 0 with h3|h3
  ·have:=Int.mul_lt_mul_of_pos_right h3 hp
   rw[Int.zero_mul]at this
   omega
  ·exact h3
 have h3:A-B*Q<B:=by
  rw[hR]at h1
  exact Int.lt_of_mul_lt_mul_right h1 (Int.le_of_lt hp)
 have hq:A/B=Q:=by
  have:=Int.add_mul_ediv_left (A-B*Q) Q (show B≠0 by omega)
  rw[Int.ediv_eq_zero_of_lt h2 h3,show A-B*Q+B*Q=A by omega]at this
  omega
 refine⟨hq.symm, ?_⟩
 rw[hR,Int.mul_ediv_cancel _ (by omega)]
 have:=Int.emod_add_mul_ediv A B
 rw[hq]at this
 omega
end Dv
/-
 large.divWords: the loop over the digits of the quotient.
-/
namespace Go.Proofs.YtdnodlkdndfplaaGreatDoor
open Go.Am Go.Tx Dv
set_option maxRecDepth 100000
def oC (a b:List Int) (n m s:Nat) (t:Nat×List Int×List Int):TM:=dB a b n m s ((t.1:Int)-1)
theorem ZyY (a b:List Int) (n m s j:Nat) (u q:List Int):oC a b n m s (j+1,u,q)=dB a b n m s (j:Int):=by
 show dB a b n m s (((j+1:Nat):Int)-1)=_
 rw[show((j+1:Nat):Int)-1=(j:Int)by omega]
def DInv (V:List Int) (n m:Nat) (U0:Int) (t:Nat×List Int×List Int):Prop:=
 t.1≤m-n+1∧t.2.1.length=m+1∧Wd t.2.1∧t.2.2.length=m-n+1∧Wd (t.2.2.drop t.1)∧wv (t.2.1.drop t.1)<wv (V.take n)∧U0=wv (V.take n)*(4294967296^t.1*wv (t.2.2.drop t.1))+wv t.2.1
theorem ZmE {V u u4 q:List Int} {n m j:Nat} {U0 d:Int} (h:DInv V n m U0 (j+1,u,q)) (hj:j+n≤m) (hnm:n≤m) (h1:u4.length=m+1) (h2:Wd u4) (h3:u4.take j=u.take j) (h4:wv (u4.drop j)=wv (u.drop j)-d*wv (V.take n)) (h5:wv (u4.drop j)<wv (V.take n)) (hd:0≤d∧d<4294967296):DInv V n m U0 (j,u4,q.set j d):=by
 obtain⟨i1,i2,i3,i4,i5,i6,i7⟩:=h
 simp only at i1 i2 i3 i4 i5 i6 i7
 have hq:j<q.length:=by omega
 have hdq:(q.set j d).drop j=d::q.drop (j+1):=by
  rw[List.drop_eq_getElem_cons (by rw[List.length_set];omega),List.getElem_set_self,List.drop_set_of_lt (by omega)]
 refine⟨by show j≤_;omega,h1,h2,by show(q.set j d).length=_;rw[List.length_set];exact i4, ?_,h5, ?_⟩
 ·show Wd ((q.set j d).drop j)
  rw[hdq]
  intro x hx
  rcases List.mem_cons.1 hx with rfl|hx
  ·exact hd
  ·exact i5 x hx
 ·show U0=wv (V.take n)*(4294967296^j*wv ((q.set j d).drop j))+wv u4
  rw[hdq,wv,i7,seg u j (by omega),seg u4 j (by omega),h3,h4,Int.pow_succ]
  generalize(4294967296:Int)^j=p
  generalize wv (V.take n)=D
  generalize wv (q.drop (j+1))=y
  generalize wv (u.drop j)=z
  grind
set_option maxHeartbeats 16000000 in
theorem Zr0 (a b u V q:List Int) (n m s:Nat) (U0:Int) (hn:2≤n) (hm:m≤900000000) (hnm:n≤m) (hV:V.length=n+1) (hwV:Wd V) (hv1:2147483648≤V[n-1]'(by omega)) (h0:DInv V n m U0 (m-n+1,u,q)):
 LoopOK Tryz.prog Zan 0 ⟨164,0,275⟩ (Zbz Tryz.f164 11) (oC a b n m s (m-n+1,u,q)) (dH u V q)
 (fun e tm hp=>e= .exit 0∧ ∃ (u' q':List Int) (X Y:SV),DInv V n m U0 (0,u',q')∧tm=(70,X)::(69,Y)::oC a b n m s (0,u',q')∧hp=dH u' V q'):=by
 have hVn1:n-1<V.length:=by omega
 have hVn2:n-2<V.length:=by omega
 obtain⟨v1,ev1⟩: ∃v1,V[n-1]=v1:=⟨_,rfl⟩
 obtain⟨v2,ev2⟩: ∃v2,V[n-2]=v2:=⟨_,rfl⟩
 have gv1:V[n-1]? =some v1:=by rw[←ev1];exact List.getElem?_eq_getElem hVn1
 have gv2:V[n-2]? =some v2:=by rw[←ev2];exact List.getElem?_eq_getElem hVn2
 have bv1:=hwV _ (List.getElem_mem hVn1)
 have bv2:=hwV _ (List.getElem_mem hVn2)
 rw[ev1]at hv1 bv1
 rw[ev2]at bv2
 have eD:=Ztr hn (show n≤V.length by omega)
 rw[ev1,ev2]at eD
 obtain⟨D,hDD⟩: ∃D,wv (V.take n)=D:=⟨_,rfl⟩
 obtain⟨P,hPP⟩: ∃P:Int,4294967296^(n-2)=P:=⟨_,rfl⟩
 have hP:0<P:=hPP▸ZxW _
 have hV':=Za1 (hwV.take (n-2))
 rw[List.length_take,Nat.min_eq_left (by omega),hPP]at hV'
 rw[hDD,hPP]at eD
 have hDn:D<4294967296^n:=by
  have:=(Za1 (hwV.take n)).2
  rw[List.length_take,Nat.min_eq_left (by omega),hDD]at this
  exact this
 have hD0:0<D:=by
  have h1:0<(v1*4294967296+v2)*P:=Int.mul_pos (by omega) hP
  omega
 have en1:IntKind.i64.wrap ((n:Int)-1)=((n-1:Nat):Int):=by rw[Zah (by omega) (by omega)];omega
 have wv1:IntKind.u64.wrap v1=v1:=Zar (by omega) (by omega)
 refine Zat Zaa rfl (oC a b n m s) (fun t=>dH t.2.1 V t.2.2) (DInv V n m U0) (fun t=>t.1) ?_ (m-n+1,u,q) h0 ZaU
 rintro⟨k,u,q⟩ hI
 rcases k with _|j
 ·refine And.intro (fun h=> ?_) (fun h=> ?_)
  ·have h':(0:Int)≤((0:Nat):Int)-1:=of_decide_eq_true h
   omega
  ·exact⟨rfl,u,q,_,_,hI,rfl,rfl⟩
 ·have hI':=hI
  obtain⟨i1,i2,i3,i4,i5,i6,i7⟩:=hI
  simp only at i1 i2 i3 i4 i5 i6 i7
  rw[hDD]at i6
  have hjn:j+n≤m:=by omega
  rw[ZyY]
  have hz1:wv (u.drop (j+1+n))=0:=by
   rw[←List.drop_drop]
   exact Zi3 (i3.drop (j+1)) (by omega)
  have hz:wv (u.drop (j+n+1))=0:=by rw[show j+n+1=j+1+n by omega];exact hz1
  have l0:j+n<u.length:=by omega
  have l1:j+n-1<u.length:=by omega
  have l2:j+n-2<u.length:=by omega
  obtain⟨u0,eu0⟩: ∃x,u[j+n]=x:=⟨_,rfl⟩
  obtain⟨u1,eu1⟩: ∃x,u[j+n-1]=x:=⟨_,rfl⟩
  obtain⟨u2,eu2⟩: ∃x,u[j+n-2]=x:=⟨_,rfl⟩
  have bu0:=i3 _ (List.getElem_mem l0)
  have bu1:=i3 _ (List.getElem_mem l1)
  have bu2:=i3 _ (List.getElem_mem l2)
  have gu0:u[j+n]? =some u0:=by rw[←eu0];exact List.getElem?_eq_getElem l0
  have gu1:u[j+n-1]? =some u1:=by rw[←eu1];exact List.getElem?_eq_getElem l1
  have gu2:u[j+n-2]? =some u2:=by rw[←eu2];exact List.getElem?_eq_getElem l2
  rw[eu0]at bu0
  rw[eu1]at bu1
  rw[eu2]at bu2
  have eU:=ZsB hn l0 i3 hz
  rw[eu0,eu1,eu2,hPP]at eU
  obtain⟨U,hUU⟩: ∃U,wv (u.drop j)=U:=⟨_,rfl⟩
  rw[hUU]at eU
  have hU':=Za1 ((i3.drop j).take (n-2))
  rw[List.length_take,List.length_drop,Nat.min_eq_left (by omega),hPP]at hU'
  have hUD:U<D*4294967296:=by
   have h1:=Zcx (show j<u.length by omega)
   have h2:=i3 _ (List.getElem_mem (show j<u.length by omega))
   omega
  obtain⟨top,etop⟩: ∃top,top=u0*4294967296+u1:=⟨_,rfl⟩
  rw[←etop]at eU
  have htop:=ZzE hP eD hV'.2 bv2.2 eU hU'.1 bu2.1 hUD
  have ejn:IntKind.i64.wrap ((j:Int)+(n:Int))=((j+n:Nat):Int):=Zah (by omega) (by omega)
  have ejn1:IntKind.i64.wrap (IntKind.i64.wrap ((j:Int)+(n:Int))-1)=((j+n-1:Nat):Int):=by rw[ejn,Zah (by omega) (by omega)];omega
  have e13:top=IntKind.u64.wrap ((BitVec.ofInt IntKind.u64.bits (IntKind.u64.wrap (IntKind.u64.wrap u0*2^min (Int.toNat 32) IntKind.u64.bits))|||BitVec.ofInt IntKind.u64.bits (IntKind.u64.wrap u1)).toNat:Int):=by
   rw[Zar (x:=u0) (by omega) (by omega),Zh3 bu0.1 bu0.2 bu1.1 bu1.2,etop]
  have htop0:0≤top:=by omega
  have htopB:top<18446744073709551616:=by omega
  have e14:top/v1=IntKind.u64.wrap ((IntKind.u64.wrap ((BitVec.ofInt IntKind.u64.bits (IntKind.u64.wrap (IntKind.u64.wrap u0*2^min (Int.toNat 32) IntKind.u64.bits))|||BitVec.ofInt IntKind.u64.bits (IntKind.u64.wrap u1)).toNat:Int)).tdiv (IntKind.u64.wrap v1)):=by
   have:top/v1≤top:=Int.ediv_le_self _ htop0
   rw[←e13,wv1,Int.tdiv_eq_ediv_of_nonneg htop0,Zar (Int.ediv_nonneg htop0 (by omega)) (by omega)]
  have e15:top % v1=(IntKind.u64.wrap ((BitVec.ofInt IntKind.u64.bits (IntKind.u64.wrap (IntKind.u64.wrap u0*2^min (Int.toNat 32) IntKind.u64.bits))|||BitVec.ofInt IntKind.u64.bits (IntKind.u64.wrap u1)).toNat:Int)).tmod (IntKind.u64.wrap v1):=by
   rw[←e13,wv1,Int.tmod_eq_emod_of_nonneg htop0]
  refine And.intro (fun h=> ?_) (fun h=> ?_)
  rotate_left
  ·have h': ¬ (0:Int)≤(j:Int):=of_decide_eq_false h
   omega
  have xu: ∀ (w:List Int) (x:Int),w[j+n]? =some x→w[0+(IntKind.i64.wrap ((j:Int)+(n:Int))).toNat]? =some x:=fun w x hx=>by rw[ejn,Nat.zero_add,Int.toNat_natCast];exact hx
  have bi:(0:Int)≤IntKind.i64.wrap ((j:Int)+(n:Int))∧IntKind.i64.wrap ((j:Int)+(n:Int))<((m+1:Nat):Int):=by rw[ejn];omega
  have bn1:(0:Int)≤IntKind.i64.wrap ((n:Int)-1)∧IntKind.i64.wrap ((n:Int)-1)<(n:Int):=by rw[en1];omega
  have xv:V[0+(IntKind.i64.wrap ((n:Int)-1)).toNat]? =some v1:=by rw[en1,Nat.zero_add,Int.toNat_natCast];exact gv1
  have vne:IntKind.u64.wrap v1≠0:=by rw[wv1];omega
  refine And.intro bi ?_
  refine Exists.intro u0 (And.intro (xu u u0 gu0) ?_)
  refine And.intro (by decide) ?_
  refine And.intro ⟨by rw[ejn1];omega,by rw[ejn1];show((j+n-1:Nat):Int)<((m+1:Nat):Int);omega⟩ ?_
  refine Exists.intro u1 (And.intro (by show u[0+(IntKind.i64.wrap (IntKind.i64.wrap ((j:Int)+(n:Int))-1)).toNat]? =some u1;rw[ejn1,Nat.zero_add,Int.toNat_natCast];exact gu1) ?_)
  refine And.intro bn1 ?_
  refine Exists.intro v1 (And.intro xv ?_)
  refine And.intro vne ?_
  refine And.intro bn1 ?_
  refine Exists.intro v1 (And.intro xv ?_)
  refine And.intro vne ?_
  refine((ZsU a b u V q n m s j top D U P _ _ v1 v2 u2 hn (by omega) hjn hnm i2 hV gv1 gv2 gu2 hP eD hV'.1 hV'.2 hv1 bv1.2 bv2.1 bv2.2 eU hU'.1 hU'.2 bu2.1 bu2.2 htop0 htop hUD).ent ?_).through ?_
  ·refine Zal rfl rfl ?_ ?_
   ·exact⟨e13,e14,e15,rfl,rfl,⟨rfl,rfl,rfl⟩,rfl,⟨rfl,rfl,rfl⟩,⟨rfl,rfl,rfl⟩,rfl,rfl,trivial⟩
   ·exact⟨⟨rfl,fun _=>rfl⟩,⟨rfl,fun _=>rfl⟩,⟨rfl,fun _=>rfl⟩,trivial⟩
  rintro _ tm hp ⟨rfl,g,rest,⟨g0,g1,gU,gL⟩,hE⟩
  refine⟨_,_,hE, ?_⟩
  refine((Zvu a b u V q n m s j g (by omega) hjn hnm i2 i3 hV hwV g0 g1).ent ?_).mono ?_
  ·refine Zal rfl rfl ?_ ?_
   ·exact⟨rfl,rfl,rfl,rfl,rfl,rfl,rfl,⟨rfl,rfl,rfl⟩,rfl,⟨rfl,rfl,rfl⟩,⟨rfl,rfl,rfl⟩,rfl,rfl,trivial⟩
   ·exact⟨⟨rfl,fun _=>rfl⟩,⟨rfl,fun _=>rfl⟩,⟨rfl,fun _=>rfl⟩,trivial⟩
  rintro _ _ _ ⟨rfl,bo,ca,u',X,⟨k1,k2,k3,k4,k5,k6,k7,k8,k9⟩,rfl,rfl⟩
  rw[hDD]at k9
  have l0':j+n<u'.length:=by omega
  have gz:u'[j+n]? =some u0:=by
   have e1:(u'.drop (j+n))[0]? =(u.drop (j+n))[0]? :=by rw[k8]
   rw[List.getElem?_drop,List.getElem?_drop,Nat.add_zero]at e1
   rw[e1];exact gu0
  have ez:u'[j+n]=u0:=by
   obtain⟨_,h⟩:=List.getElem?_eq_some_iff.1 gz
   exact h
  obtain⟨b2,eb2⟩: ∃b2,b2=bo+(u0-ca):=⟨_,rfl⟩
  have f16:IntKind.i64.wrap (bo+IntKind.i64.wrap (IntKind.i64.wrap u0-IntKind.i64.wrap ca))=b2:=by
   rw[Zah (x:=u0) (by omega) (by omega),Zah (x:=ca) (by omega) (by omega),Zah (x:=u0-ca) (by omega) (by omega),Zah (by omega) (by omega),eb2]
  have er:u'.set (j+n) (b2 % 4294967296)=u'.set (0+(IntKind.i64.wrap ((j:Int)+(n:Int))).toNat) (IntKind.u32.wrap (IntKind.i64.wrap (bo+IntKind.i64.wrap (IntKind.i64.wrap u0-IntKind.i64.wrap ca)))):=by
   rw[f16,ejn,Nat.zero_add,Int.toNat_natCast,ZaZ]
  have hse:=Zs5 (u:=u) (u':=u') (z:=u0) (b2:=b2) (by omega) l0 k7 ez eb2 k9
  rw[hUU]at hse
  obtain⟨w,ew⟩: ∃w,u'.set (j+n) (b2 % 4294967296)=w:=⟨_,rfl⟩
  have wl:w.length=m+1:=by rw[←ew,List.length_set];exact k5
  have ww:Wd w:=by
   rw[←ew]
   intro y hy
   rcases List.mem_or_eq_of_mem_set hy with hy|rfl
   ·exact k6 y hy
   ·omega
  have wt:w.take j=u.take j:=by rw[←ew,List.take_set_of_le (by omega),k7]
  have wd:w.drop (j+n+1)=u.drop (j+n+1):=by
   rw[←ew,List.drop_set_of_lt (by omega),←List.drop_drop,k8,List.drop_drop]
  have wz:wv (w.drop j)<4294967296^(n+1):=Zsr (ww.drop j) (by rw[List.drop_drop,show j+(n+1)=j+n+1 by omega,wd];exact hz)
  rw[ew]at er hse
  have wn:=wvn (ww.drop j)
  have wi:IntKind.i64.wrap ((j:Int)-1)=(j:Int)-1:=Zah (by omega) (by omega)
  have hpn:=ZxW (n+1)
  have bj:(0:Int)≤(j:Int)∧(j:Int)<((m-n+1:Nat):Int):=by omega
  have ql:j<q.length:=by omega
  have gq:q[0+(j:Int).toNat]? =some q[j]:=by rw[Nat.zero_add,Int.toNat_natCast];exact List.getElem?_eq_getElem ql
  have eq': ∀d:Int,0≤d→d<4294967296→q.set j d=q.set (0+(j:Int).toNat) (IntKind.u32.wrap d):=fun d hd0 hd1=>by rw[Nat.zero_add,Int.toNat_natCast,ZaZ,Int.emod_eq_of_lt hd0 hd1]
  refine And.intro bi ?_
  refine Exists.intro u0 (And.intro (xu u' u0 gz) ?_)
  refine And.intro bi ?_
  refine Exists.intro u0 (And.intro (xu u' u0 gz) ?_)
  refine And.intro (fun h2=> ?_) (fun h2=> ?_)
  ·have hb2:IntKind.i64.wrap (bo+IntKind.i64.wrap (IntKind.i64.wrap u0-IntKind.i64.wrap ca))<0:=of_decide_eq_true h2
   rw[f16]at hb2
   have hdiv:b2/4294967296= -1:=by omega
   rw[hdiv]at hse
   have fg:IntKind.u64.wrap (g-1)=g-1∧1≤g:=by
    have:1≤g:=by
     rcases Int.lt_or_le g 1 with h|h
     ·have hg0:g=0:=by omega
      subst hg0
      have hUn:0≤U:=hUU▸wvn (i3.drop j)
      rw[Int.zero_mul]at hse
      omega
     ·exact h
    exact⟨Zar (by omega) (by omega),this⟩
   refine((ZtK a b w V q n m s j (g-1) (by omega) hjn hnm wl ww hV hwV).ent ?_).mono ?_
   ·refine Zal rfl rfl ?_ ?_
    ·exact⟨fg.1.symm,rfl,rfl,rfl,rfl,rfl,⟨rfl,rfl,rfl⟩,rfl,⟨rfl,rfl,rfl⟩,⟨rfl,rfl,rfl⟩,rfl,rfl,trivial⟩
    ·exact⟨⟨er,fun _=>rfl⟩,⟨rfl,fun _=>rfl⟩,⟨rfl,fun _=>rfl⟩,trivial⟩
   rintro _ _ _ ⟨rfl,c,u3,X3,⟨c1,c2,c3,c4,c5,c6,c7⟩,rfl,rfl⟩
   rw[hDD]at c7
   have l3:j+n<u3.length:=by omega
   obtain⟨z3,ez3⟩: ∃z,u3[j+n]=z:=⟨_,rfl⟩
   have gz3:u3[j+n]? =some z3:=by rw[←ez3];exact List.getElem?_eq_getElem l3
   have bz3:=c4 _ (List.getElem_mem l3)
   rw[ez3]at bz3
   obtain⟨y,ey⟩: ∃y,y=z3+c:=⟨_,rfl⟩
   have hae:=ZtG (u:=w) (u':=u3) (y:=y) (by omega) (by omega) c5 ez3 ey c7
   have er3:u3.set (j+n) (y % 4294967296)=u3.set (0+(IntKind.i64.wrap ((j:Int)+(n:Int))).toNat) (IntKind.u32.wrap (z3+IntKind.u32.wrap c)):=by
    rw[ejn,Nat.zero_add,Int.toNat_natCast,ZaZ c,ZaZ,Int.emod_eq_of_lt c1 (by omega),ey]
   obtain⟨u4,eu4⟩: ∃u4,u3.set (j+n) (y % 4294967296)=u4:=⟨_,rfl⟩
   have l4:u4.length=m+1:=by rw[←eu4,List.length_set];exact c3
   have w4:Wd u4:=by
    rw[←eu4]
    intro x hx
    rcases List.mem_or_eq_of_mem_set hx with hx|rfl
    ·exact c4 x hx
    ·omega
   have t4:u4.take j=u.take j:=by rw[←eu4,List.take_set_of_le (by omega),c5,wt]
   have d4:u4.drop (j+n+1)=u.drop (j+n+1):=by
    rw[←eu4,List.drop_set_of_lt (by omega),←List.drop_drop,c6,List.drop_drop,wd]
   have z4:wv (u4.drop j)<4294967296^(n+1):=Zsr (w4.drop j) (by rw[List.drop_drop,show j+(n+1)=j+n+1 by omega,d4];exact hz)
   have n4:=wvn (w4.drop j)
   rw[eu4]at er3 hae
   have hUg:(g-1)*D=g*D-D:=by grind
   have hy:y/4294967296=1:=by
    rcases(show y/4294967296=0∨y/4294967296=1 by omega)with h|h
    ·rw[h]at hae;omega
    ·exact h
   rw[hy]at hae
   have h4:wv (u4.drop j)=U-(g-1)*D:=by omega
   refine And.intro bi ?_
   refine Exists.intro z3 (And.intro (xu u3 z3 gz3) ?_)
   refine And.intro bi ?_
   refine Exists.intro z3 (And.intro (xu u3 z3 gz3) ?_)
   refine And.intro bj ?_
   refine Exists.intro (q[j]) (And.intro gq ?_)
   refine⟨(j,u4,q.set j (g-1)),ZmE hI' hjn hnm l4 w4 t4 (by rw[hUU,hDD];exact h4) (by rw[hDD];omega) ⟨by omega,by omega⟩,Nat.lt_succ_self j, ?_⟩
   refine Zal rfl rfl ?_ ?_
   ·exact⟨rfl,rfl,⟨rfl,rfl,rfl⟩,rfl,⟨rfl,rfl,rfl⟩,⟨rfl,rfl,rfl⟩,rfl,wi.symm,trivial⟩
   ·exact⟨⟨er3,fun _=>rfl⟩,⟨rfl,fun _=>rfl⟩,⟨eq' _ (by omega) (by omega),fun _=>rfl⟩,trivial⟩
  ·have hb2: ¬IntKind.i64.wrap (bo+IntKind.i64.wrap (IntKind.i64.wrap u0-IntKind.i64.wrap ca))<0:=of_decide_eq_false h2
   rw[f16]at hb2
   have hdiv:b2/4294967296=0:=by omega
   rw[hdiv]at hse
   refine And.intro bj ?_
   refine Exists.intro (q[j]) (And.intro gq ?_)
   refine⟨(j,w,q.set j g),ZmE hI' hjn hnm wl ww wt (by rw[hUU,hDD];omega) (by rw[hDD];omega) ⟨g0,g1⟩,Nat.lt_succ_self j, ?_⟩
   refine Zal rfl rfl ?_ ?_
   ·exact⟨rfl,rfl,⟨rfl,rfl,rfl⟩,rfl,⟨rfl,rfl,rfl⟩,⟨rfl,rfl,rfl⟩,rfl,wi.symm,trivial⟩
   ·exact⟨⟨er,fun _=>rfl⟩,⟨rfl,fun _=>rfl⟩,⟨eq' _ g0 g1,fun _=>rfl⟩,trivial⟩
end Go.Proofs.YtdnodlkdndfplaaGreatDoor

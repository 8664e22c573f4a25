/-
 large.divWords: the loop over the digits of the quotient.
-/
import Derived.Test.YtkhpbclcfldhmaaGreatDoorT11
import Derived.Test.YtkhpbclcfldhmaaGreatDoorD2
set_option linter.constructorNameAsVariable false
set_option linter.unusedSimpArgs false
set_option linter.unusedVariables false
namespace Go.Proofs.YtkhpbclcfldhmaaGreatDoor
open Go.Am Go.Tx Dv
set_option maxRecDepth 100000
def oC (a b:List Int) (n m s:Nat) (t:Nat×List Int×List Int):TM:=dB a b n m s ((t.1:Int)-1)
theorem ZwU (a b:List Int) (n m s j:Nat) (u q:List Int):oC a b n m s (j+1,u,q)=dB a b n m s (j:Int):=by
 show dB a b n m s (((j+1:Nat):Int)-1)=_
 rw[show((j+1:Nat):Int)-1=(j:Int)by omega]
def DInv (V:List Int) (n m:Nat) (U0:Int) (t:Nat×List Int×List Int):Prop:=
 t.1≤m-n+1∧t.2.1.length=m+1∧Wd t.2.1∧t.2.2.length=m-n+1∧Wd (t.2.2.drop t.1)∧wv (t.2.1.drop t.1)<wv (V.take n)∧U0=wv (V.take n)*(4294967296^t.1*wv (t.2.2.drop t.1))+wv t.2.1
theorem Zmh {V u u4 q:List Int} {n m j:Nat} {U0 d:Int} (h:DInv V n m U0 (j+1,u,q)) (hj:j+n≤m) (hnm:n≤m) (h1:u4.length=m+1) (h2:Wd u4) (h3:u4.take j=u.take j) (h4:wv (u4.drop j)=wv (u.drop j)-d*wv (V.take n)) (h5:wv (u4.drop j)<wv (V.take n)) (hd:0≤d∧d<4294967296):DInv V n m U0 (j,u4,q.set j d):=by
 obtain⟨i1,i2,i3,i4,i5,i6,i7⟩:=h
 simp only at i1 i2 i3 i4 i5 i6 i7
 have hq:j<q.length:=by omega
 have hdq:(q.set j d).drop j=d::q.drop (j+1):=by
  rw[List.drop_eq_getElem_cons (by rw[List.length_set];omega),List.getElem_set_self,List.drop_set_of_lt (by omega)]
 refine⟨by show j≤_;omega,h1,h2,by show(q.set j d).length=_;rw[List.length_set];exact i4, ?_,h5, ?_⟩
 ·show Wd ((q.set j d).drop j)
  rw[hdq]
  intro x hx
  rcases List.mem_cons.1 hx with rfl|hx
  ·exact hd
  ·exact i5 x hx
 ·show U0=wv (V.take n)*(4294967296^j*wv ((q.set j d).drop j))+wv u4
  rw[hdq,wv,i7,seg u j (by omega),seg u4 j (by omega),h3,h4,Int.pow_succ]
  generalize(4294967296:Int)^j=p
  generalize wv (V.take n)=D
  generalize wv (q.drop (j+1))=y
  generalize wv (u.drop j)=z
  grind
set_option maxHeartbeats 16000000 in
theorem ZrQ (a b u V q:List Int) (n m s:Nat) (U0:Int) (hn:2≤n) (hm:m≤900000) (hnm:n≤m) (hV:V.length=n+1) (hwV:Wd V) (hv1:2147483648≤V[n-1]'(by omega)) (h0:DInv V n m U0 (m-n+1,u,q)):
 LoopOK Tryz.prog Zao 0 ⟨75,0,275⟩ (Zbw Tryz.f75 11) (oC a b n m s (m-n+1,u,q)) (dH u V q)
 (fun e tm hp=>e= .exit 0∧ ∃ (u' q':List Int) (X Y:SV),DInv V n m U0 (0,u',q')∧tm=(70,X)::(69,Y)::oC a b n m s (0,u',q')∧hp=dH u' V q'):=by
 have hVn1:n-1<V.length:=by omega
 have hVn2:n-2<V.length:=by omega
 obtain⟨v1,ev1⟩: ∃v1,V[n-1]=v1:=⟨_,rfl⟩
 obtain⟨v2,ev2⟩: ∃v2,V[n-2]=v2:=⟨_,rfl⟩
 have gv1:V[n-1]? =some v1:=by rw[←ev1];exact List.getElem?_eq_getElem hVn1
 have gv2:V[n-2]? =some v2:=by rw[←ev2];exact List.getElem?_eq_getElem hVn2
 have bv1:=hwV _ (List.getElem_mem hVn1)
 have bv2:=hwV _ (List.getElem_mem hVn2)
 rw[ev1]at hv1 bv1
 rw[ev2]at bv2
 have eD:=Zrk hn (show n≤V.length by omega)
 rw[ev1,ev2]at eD
 obtain⟨D,hDD⟩: ∃D,wv (V.take n)=D:=⟨_,rfl⟩
 obtain⟨P,hPP⟩: ∃P:Int,4294967296^(n-2)=P:=⟨_,rfl⟩
 have hP:0<P:=hPP▸ZvI _
 have hV':=Za7 (hwV.take (n-2))
 rw[List.length_take,Nat.min_eq_left (by omega),hPP]at hV'
 rw[hDD,hPP]at eD
 have hDn:D<4294967296^n:=by
  have:=(Za7 (hwV.take n)).2
  rw[List.length_take,Nat.min_eq_left (by omega),hDD]at this
  exact this
 have hD0:0<D:=by
  have h1:0<(v1*4294967296+v2)*P:=Int.mul_pos (by omega) hP
  omega
 have en1:IntKind.i64.wrap ((n:Int)-1)=((n-1:Nat):Int):=by rw[Zar (by omega) (by omega)];omega
 have wv1:IntKind.u64.wrap v1=v1:=Zas (by omega) (by omega)
 refine Zaz Zah rfl (oC a b n m s) (fun t=>dH t.2.1 V t.2.2) (DInv V n m U0) (fun t=>t.1) ?_ (m-n+1,u,q) h0 ZaU
 rintro⟨k,u,q⟩ hI
 rcases k with _|j
 ·refine And.intro (fun h=> ?_) (fun h=> ?_)
  ·have h':(0:Int)≤((0:Nat):Int)-1:=of_decide_eq_true h
   omega
  ·exact⟨rfl,u,q,_,_,hI,rfl,rfl⟩
 ·have hI':=hI
  obtain⟨i1,i2,i3,i4,i5,i6,i7⟩:=hI
  simp only at i1 i2 i3 i4 i5 i6 i7
  rw[hDD]at i6
  have hjn:j+n≤m:=by omega
  rw[ZwU]
  have hz1:wv (u.drop (j+1+n))=0:=by
   rw[←List.drop_drop]
   exact ZiT (i3.drop (j+1)) (by omega)
  have hz:wv (u.drop (j+n+1))=0:=by rw[show j+n+1=j+1+n by omega];exact hz1
  have l0:j+n<u.length:=by omega
  have l1:j+n-1<u.length:=by omega
  have l2:j+n-2<u.length:=by omega
  obtain⟨u0,eu0⟩: ∃x,u[j+n]=x:=⟨_,rfl⟩
  obtain⟨u1,eu1⟩: ∃x,u[j+n-1]=x:=⟨_,rfl⟩
  obtain⟨u2,eu2⟩: ∃x,u[j+n-2]=x:=⟨_,rfl⟩
  have bu0:=i3 _ (List.getElem_mem l0)
  have bu1:=i3 _ (List.getElem_mem l1)
  have bu2:=i3 _ (List.getElem_mem l2)
  have gu0:u[j+n]? =some u0:=by rw[←eu0];exact List.getElem?_eq_getElem l0
  have gu1:u[j+n-1]? =some u1:=by rw[←eu1];exact List.getElem?_eq_getElem l1
  have gu2:u[j+n-2]? =some u2:=by rw[←eu2];exact List.getElem?_eq_getElem l2
  rw[eu0]at bu0
  rw[eu1]at bu1
  rw[eu2]at bu2
  have eU:=ZqZ hn l0 i3 hz
  rw[eu0,eu1,eu2,hPP]at eU
  obtain⟨U,hUU⟩: ∃U,wv (u.drop j)=U:=⟨_,rfl⟩
  rw[hUU]at eU
  have hU':=Za7 ((i3.drop j).take (n-2))
  rw[List.length_take,List.length_drop,Nat.min_eq_left (by omega),hPP]at hU'
  have hUD:U<D*4294967296:=by
   have h1:=Zcs (show j<u.length by omega)
   have h2:=i3 _ (List.getElem_mem (show j<u.length by omega))
   omega
  obtain⟨top,etop⟩: ∃top,top=u0*4294967296+u1:=⟨_,rfl⟩
  rw[←etop]at eU
  have htop:=Zxg hP eD hV'.2 bv2.2 eU hU'.1 bu2.1 hUD
  have ejn:IntKind.i64.wrap ((j:Int)+(n:Int))=((j+n:Nat):Int):=Zar (by omega) (by omega)
  have ejn1:IntKind.i64.wrap (IntKind.i64.wrap ((j:Int)+(n:Int))-1)=((j+n-1:Nat):Int):=by rw[ejn,Zar (by omega) (by omega)];omega
  have e13:top=IntKind.u64.wrap ((BitVec.ofInt IntKind.u64.bits (IntKind.u64.wrap (IntKind.u64.wrap u0*2^min (Int.toNat 32) IntKind.u64.bits))|||BitVec.ofInt IntKind.u64.bits (IntKind.u64.wrap u1)).toNat:Int):=by
   rw[Zas (x:=u0) (by omega) (by omega),ZhP bu0.1 bu0.2 bu1.1 bu1.2,etop]
  have htop0:0≤top:=by omega
  have htopB:top<18446744073709551616:=by omega
  have e14:top/v1=IntKind.u64.wrap ((IntKind.u64.wrap ((BitVec.ofInt IntKind.u64.bits (IntKind.u64.wrap (IntKind.u64.wrap u0*2^min (Int.toNat 32) IntKind.u64.bits))|||BitVec.ofInt IntKind.u64.bits (IntKind.u64.wrap u1)).toNat:Int)).tdiv (IntKind.u64.wrap v1)):=by
   have:top/v1≤top:=Int.ediv_le_self _ htop0
   rw[←e13,wv1,Int.tdiv_eq_ediv_of_nonneg htop0,Zas (Int.ediv_nonneg htop0 (by omega)) (by omega)]
  have e15:top % v1=(IntKind.u64.wrap ((BitVec.ofInt IntKind.u64.bits (IntKind.u64.wrap (IntKind.u64.wrap u0*2^min (Int.toNat 32) IntKind.u64.bits))|||BitVec.ofInt IntKind.u64.bits (IntKind.u64.wrap u1)).toNat:Int)).tmod (IntKind.u64.wrap v1):=by
   rw[←e13,wv1,Int.tmod_eq_emod_of_nonneg htop0]
  refine And.intro (fun h=> ?_) (fun h=> ?_)
  rotate_left
  ·have h': ¬ (0:Int)≤(j:Int):=of_decide_eq_false h
   omega
  have xu: ∀ (w:List Int) (x:Int),w[j+n]? =some x→w[0+(IntKind.i64.wrap ((j:Int)+(n:Int))).toNat]? =some x:=fun w x hx=>by rw[ejn,Nat.zero_add,Int.toNat_natCast];exact hx
  have bi:(0:Int)≤IntKind.i64.wrap ((j:Int)+(n:Int))∧IntKind.i64.wrap ((j:Int)+(n:Int))<((m+1:Nat):Int):=by rw[ejn];omega
  have bn1:(0:Int)≤IntKind.i64.wrap ((n:Int)-1)∧IntKind.i64.wrap ((n:Int)-1)<(n:Int):=by rw[en1];omega
  have xv:V[0+(IntKind.i64.wrap ((n:Int)-1)).toNat]? =some v1:=by rw[en1,Nat.zero_add,Int.toNat_natCast];exact gv1
  have vne:IntKind.u64.wrap v1≠0:=by rw[wv1];omega
  refine And.intro bi ?_
  refine Exists.intro u0 (And.intro (xu u u0 gu0) ?_)
  refine And.intro (by decide) ?_
  refine And.intro ⟨by rw[ejn1];omega,by rw[ejn1];show((j+n-1:Nat):Int)<((m+1:Nat):Int);omega⟩ ?_
  refine Exists.intro u1 (And.intro (by show u[0+(IntKind.i64.wrap (IntKind.i64.wrap ((j:Int)+(n:Int))-1)).toNat]? =some u1;rw[ejn1,Nat.zero_add,Int.toNat_natCast];exact gu1) ?_)
  refine And.intro bn1 ?_
  refine Exists.intro v1 (And.intro xv ?_)
  refine And.intro vne ?_
  refine And.intro bn1 ?_
  refine Exists.intro v1 (And.intro xv ?_)
  refine And.intro vne ?_
  refine((Zsi a b u V q n m s j top D U P _ _ v1 v2 u2 hn (by omega) hjn hnm i2 hV gv1 gv2 gu2 hP eD hV'.1 hV'.2 hv1 bv1.2 bv2.1 bv2.2 eU hU'.1 hU'.2 bu2.1 bu2.2 htop0 htop hUD).ent ?_).through ?_
  ·refine ZaC rfl rfl ?_ ?_
   ·exact⟨e13,e14,e15,rfl,rfl,⟨rfl,rfl,rfl⟩,rfl,⟨rfl,rfl,rfl⟩,⟨rfl,rfl,rfl⟩,rfl,rfl,trivial⟩
   ·exact⟨⟨rfl,fun _=>rfl⟩,⟨rfl,fun _=>rfl⟩,⟨rfl,fun _=>rfl⟩,trivial⟩
  rintro _ tm hp ⟨rfl,g,rest,⟨g0,g1,gU,gL⟩,hE⟩
  refine⟨_,_,hE, ?_⟩
  refine((Zt7 a b u V q n m s j g (by omega) hjn hnm i2 i3 hV hwV g0 g1).ent ?_).mono ?_
  ·refine ZaC rfl rfl ?_ ?_
   ·exact⟨rfl,rfl,rfl,rfl,rfl,rfl,rfl,⟨rfl,rfl,rfl⟩,rfl,⟨rfl,rfl,rfl⟩,⟨rfl,rfl,rfl⟩,rfl,rfl,trivial⟩
   ·exact⟨⟨rfl,fun _=>rfl⟩,⟨rfl,fun _=>rfl⟩,⟨rfl,fun _=>rfl⟩,trivial⟩
  rintro _ _ _ ⟨rfl,bo,ca,u',X,⟨k1,k2,k3,k4,k5,k6,k7,k8,k9⟩,rfl,rfl⟩
  rw[hDD]at k9
  have l0':j+n<u'.length:=by omega
  have gz:u'[j+n]? =some u0:=by
   have e1:(u'.drop (j+n))[0]? =(u.drop (j+n))[0]? :=by rw[k8]
   rw[List.getElem?_drop,List.getElem?_drop,Nat.add_zero]at e1
   rw[e1];exact gu0
  have ez:u'[j+n]=u0:=by
   obtain⟨_,h⟩:=List.getElem?_eq_some_iff.1 gz
   exact h
  obtain⟨b2,eb2⟩: ∃b2,b2=bo+(u0-ca):=⟨_,rfl⟩
  have f16:IntKind.i64.wrap (bo+IntKind.i64.wrap (IntKind.i64.wrap u0-IntKind.i64.wrap ca))=b2:=by
   rw[Zar (x:=u0) (by omega) (by omega),Zar (x:=ca) (by omega) (by omega),Zar (x:=u0-ca) (by omega) (by omega),Zar (by omega) (by omega),eb2]
  have er:u'.set (j+n) (b2 % 4294967296)=u'.set (0+(IntKind.i64.wrap ((j:Int)+(n:Int))).toNat) (IntKind.u32.wrap (IntKind.i64.wrap (bo+IntKind.i64.wrap (IntKind.i64.wrap u0-IntKind.i64.wrap ca)))):=by
   rw[f16,ejn,Nat.zero_add,Int.toNat_natCast,Za0]
  have hse:=ZsU (u:=u) (u':=u') (z:=u0) (b2:=b2) (by omega) l0 k7 ez eb2 k9
  rw[hUU]at hse
  obtain⟨w,ew⟩: ∃w,u'.set (j+n) (b2 % 4294967296)=w:=⟨_,rfl⟩
  have wl:w.length=m+1:=by rw[←ew,List.length_set];exact k5
  have ww:Wd w:=by
   rw[←ew]
   intro y hy
   rcases List.mem_or_eq_of_mem_set hy with hy|rfl
   ·exact k6 y hy
   ·omega
  have wt:w.take j=u.take j:=by rw[←ew,List.take_set_of_le (by omega),k7]
  have wd:w.drop (j+n+1)=u.drop (j+n+1):=by
   rw[←ew,List.drop_set_of_lt (by omega),←List.drop_drop,k8,List.drop_drop]
  have wz:wv (w.drop j)<4294967296^(n+1):=ZsF (ww.drop j) (by rw[List.drop_drop,show j+(n+1)=j+n+1 by omega,wd];exact hz)
  rw[ew]at er hse
  have wn:=wvn (ww.drop j)
  have wi:IntKind.i64.wrap ((j:Int)-1)=(j:Int)-1:=Zar (by omega) (by omega)
  have hpn:=ZvI (n+1)
  have bj:(0:Int)≤(j:Int)∧(j:Int)<((m-n+1:Nat):Int):=by omega
  have ql:j<q.length:=by omega
  have gq:q[0+(j:Int).toNat]? =some q[j]:=by rw[Nat.zero_add,Int.toNat_natCast];exact List.getElem?_eq_getElem ql
  have eq': ∀d:Int,0≤d→d<4294967296→q.set j d=q.set (0+(j:Int).toNat) (IntKind.u32.wrap d):=fun d hd0 hd1=>by rw[Nat.zero_add,Int.toNat_natCast,Za0,Int.emod_eq_of_lt hd0 hd1]
  refine And.intro bi ?_
  refine Exists.intro u0 (And.intro (xu u' u0 gz) ?_)
  refine And.intro bi ?_
  refine Exists.intro u0 (And.intro (xu u' u0 gz) ?_)
  refine And.intro (fun h2=> ?_) (fun h2=> ?_)
  ·have hb2:IntKind.i64.wrap (bo+IntKind.i64.wrap (IntKind.i64.wrap u0-IntKind.i64.wrap ca))<0:=of_decide_eq_true h2
   rw[f16]at hb2
   have hdiv:b2/4294967296= -1:=by omega
   rw[hdiv]at hse
   have fg:IntKind.u64.wrap (g-1)=g-1∧1≤g:=by
    have:1≤g:=by
     rcases Int.lt_or_le g 1 with h|h
     ·have hg0:g=0:=by omega
      subst hg0
      have hUn:0≤U:=hUU▸wvn (i3.drop j)
      rw[Int.zero_mul]at hse
      omega
     ·exact h
    exact⟨Zas (by omega) (by omega),this⟩
   refine((Zq1 a b w V q n m s j (g-1) (by omega) hjn hnm wl ww hV hwV).ent ?_).mono ?_
   ·refine ZaC rfl rfl ?_ ?_
    ·exact⟨fg.1.symm,rfl,rfl,rfl,rfl,rfl,⟨rfl,rfl,rfl⟩,rfl,⟨rfl,rfl,rfl⟩,⟨rfl,rfl,rfl⟩,rfl,rfl,trivial⟩
    ·exact⟨⟨er,fun _=>rfl⟩,⟨rfl,fun _=>rfl⟩,⟨rfl,fun _=>rfl⟩,trivial⟩
   rintro _ _ _ ⟨rfl,c,u3,X3,⟨c1,c2,c3,c4,c5,c6,c7⟩,rfl,rfl⟩
   rw[hDD]at c7
   have l3:j+n<u3.length:=by omega
   obtain⟨z3,ez3⟩: ∃z,u3[j+n]=z:=⟨_,rfl⟩
   have gz3:u3[j+n]? =some z3:=by rw[←ez3];exact List.getElem?_eq_getElem l3
   have bz3:=c4 _ (List.getElem_mem l3)
   rw[ez3]at bz3
   obtain⟨y,ey⟩: ∃y,y=z3+c:=⟨_,rfl⟩
   have hae:=ZsP (u:=w) (u':=u3) (y:=y) (by omega) (by omega) c5 ez3 ey c7
   have er3:u3.set (j+n) (y % 4294967296)=u3.set (0+(IntKind.i64.wrap ((j:Int)+(n:Int))).toNat) (IntKind.u32.wrap (z3+IntKind.u32.wrap c)):=by
    rw[ejn,Nat.zero_add,Int.toNat_natCast,Za0 c,Za0,Int.emod_eq_of_lt c1 (by omega),ey]
   obtain⟨u4,eu4⟩: ∃u4,u3.set (j+n) (y % 4294967296)=u4:=⟨_,rfl⟩
   have l4:u4.length=m+1:=by rw[←eu4,List.length_set];exact c3
   have w4:Wd u4:=by
    rw[←eu4]
    intro x hx
    rcases List.mem_or_eq_of_mem_set hx with hx|rfl
    ·exact c4 x hx
    ·omega
   have t4:u4.take j=u.take j:=by rw[←eu4,List.take_set_of_le (by omega),c5,wt]
   have d4:u4.drop (j+n+1)=u.drop (j+n+1):=by
    rw[←eu4,List.drop_set_of_lt (by omega),←List.drop_drop,c6,List.drop_drop,wd]
   have z4:wv (u4.drop j)<4294967296^(n+1):=ZsF (w4.drop j) (by rw[List.drop_drop,show j+(n+1)=j+n+1 by omega,d4];exact hz)
   have n4:=wvn (w4.drop j)
   rw[eu4]at er3 hae
   have hUg:(g-1)*D=g*D-D:=by grind
   have hy:y/4294967296=1:=by
    rcases(show y/4294967296=0∨y/4294967296=1 by omega)with h|h
    ·rw[h]at hae;omega
    ·exact h
   rw[hy]at hae
   have h4:wv (u4.drop j)=U-(g-1)*D:=by omega
   refine And.intro bi ?_
   refine Exists.intro z3 (And.intro (xu u3 z3 gz3) ?_)
   refine And.intro bi ?_
   refine Exists.intro z3 (And.intro (xu u3 z3 gz3) ?_)
   refine And.intro bj ?_
   refine Exists.intro (q[j]) (And.intro gq ?_)
   refine⟨(j,u4,q.set j (g-1)),Zmh hI' hjn hnm l4 w4 t4 (by rw[hUU,hDD];exact h4) (by rw[hDD];omega) ⟨by omega,by omega⟩,Nat.lt_succ_self j, ?_⟩
   refine ZaC rfl rfl ?_ ?_
   ·exact⟨rfl,rfl,⟨rfl,rfl,rfl⟩,rfl,⟨rfl,rfl,rfl⟩,⟨rfl,rfl,rfl⟩,rfl,wi.symm,trivial⟩
   ·exact⟨⟨er3,fun _=>rfl⟩,⟨rfl,fun _=>rfl⟩,⟨eq' _ (by omega) (by omega),fun _=>rfl⟩,trivial⟩
  ·have hb2: ¬IntKind.i64.wrap (bo+IntKind.i64.wrap (IntKind.i64.wrap u0-IntKind.i64.wrap ca))<0:=of_decide_eq_false h2
   rw[f16]at hb2
   have hdiv:b2/4294967296=0:=by omega
   rw[hdiv]at hse
   refine And.intro bj ?_
   refine Exists.intro (q[j]) (And.intro gq ?_)
   refine⟨(j,w,q.set j g),Zmh hI' hjn hnm wl ww wt (by rw[hUU,hDD];omega) (by rw[hDD];omega) ⟨g0,g1⟩,Nat.lt_succ_self j, ?_⟩
   refine ZaC rfl rfl ?_ ?_
   ·exact⟨rfl,rfl,⟨rfl,rfl,rfl⟩,rfl,⟨rfl,rfl,rfl⟩,⟨rfl,rfl,rfl⟩,rfl,wi.symm,trivial⟩
   ·exact⟨⟨er,fun _=>rfl⟩,⟨rfl,fun _=>rfl⟩,⟨eq' _ g0 g1,fun _=>rfl⟩,trivial⟩
end Go.Proofs.YtkhpbclcfldhmaaGreatDoor

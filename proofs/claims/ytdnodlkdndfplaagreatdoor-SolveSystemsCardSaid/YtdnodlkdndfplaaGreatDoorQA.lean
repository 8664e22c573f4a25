/-
 The reference: RatError, RatErrors.
-/
import Derived.Test.YtdnodlkdndfplaaGreatDoorR4
set_option linter.constructorNameAsVariable false
set_option linter.unusedSimpArgs false
set_option linter.unusedVariables false
namespace Go.Proofs.YtdnodlkdndfplaaGreatDoor
open Go.Am Go.Tx Dv Go.Lib
set_option maxRecDepth 100000
theorem ZuF: ∀ (l:List UInt8) (c:UInt8) (i:Nat),ZbN l c i= -1∨(i:Int)≤ZbN l c i
 | [],_,_=> .inl rfl
 |b::l,c,i=>by
  rw[ZbN]
  cases Nat.beq b.toNat c.toNat with
  |true=>exact .inr (Int.le_refl _)
  |false=>
   rcases ZuF l c (i+1)with h|h
   ·exact .inl h
   ·right
    simp only
    omega
def stE (s:List UInt8) (i:Nat):Int×List UInt8×List UInt8:=match decide (0≤ZbN s 47 0)&&decide (ZbN s 47 0<(i:Int))with
 |true=>(2,(Zdf s 47).1,(Zdf s 47).2.1)
 |false=>(1,s,[50])
theorem Zyd (s:List UInt8):stE s s.length=match(Zdf s 47).2.2 with
 |true=>(2,(Zdf s 47).1,(Zdf s 47).2.1)
 |false=>(1,s,[50]):=by
 have h:=Zxe s 47
 unfold stE
 cases hd:decide (0≤ZbN s 47 0)with
 |true=>
  rw[decide_eq_true h.2]
  obtain⟨k,h1,_⟩:=Zhm s 47 0 (of_decide_eq_true hd)
  rw[Nat.zero_add]at h1
  rw[ZgK h1]
  rfl
 |false=>
  have:ZbN s 47 0= -1:=by have:=of_decide_eq_false hd;omega
  rw[ZfY this]
  rfl
theorem ZBu (c:UInt8):decide ((c.toNat:Int)=47)=Nat.beq c.toNat (47:UInt8).toNat:=by
 rw[Bool.eq_iff_iff,decide_eq_true_eq,Nat.beq_eq]
 show _↔c.toNat=47
 omega
theorem ZBk (c:UInt8):decide ((c.toNat:Int)=45)=(some c==some (45:UInt8)):=by
 rw[Bool.eq_iff_iff,decide_eq_true_eq,beq_iff_eq,Option.some.injEq]
 constructor
 ·intro h
  exact UInt8.toNat_inj.1 (by show c.toNat=45;omega)
 ·rintro rfl;rfl
theorem Zq0:Zay [50]=0:=by
 have h:=ZuD (Za9 2) (by rw[decDigits_one (by decide)];decide)
 rw[decDigits_one (by decide)]at h
 exact h
abbrev reC (S:List UInt8) (m:Bool) (t:Nat×Int×List UInt8×List UInt8):TM:=[(3, .v .s S),(4, .v .b m),(5, .v (.i .i64) t.2.1),(6, .v .s t.2.2.1),(7, .v .s t.2.2.2),(24, .v (.i .i64) (S.length:Int)),(25, .v (.i .i64) (t.1:Int))]
set_option maxHeartbeats 16000000 in
theorem Zrm (a:List UInt8) (hl:a.length≤9223372036854775806):PureOK Tryz.prog Zan 16 [.v .s a] (fun V=>V= .v (.i .i64) (ZbK a)):=by
 refine Zac Zaa Tryz.func16 ?_
 obtain⟨ha1,ha2⟩:=Zue a
 obtain⟨hc1,hc2⟩:=ZsF (Zf0 a) 47
 have hP:=Zht a
 have hBad:Zw5 a=(rIs a&&(decide (dec (Zmy a)=0)||(decide (dec (Zmy a)=1)|| !decide (Nat.gcd (dec (Zgc a)) (dec (Zmy a))=1)))):=rfl
 have hE2:rE2 a=match rIs a with|true=>Zay (Zmy a)|false=>0:=rfl
 have e1:Zgc a=(Zdf (Zf0 a) 47).1:=rfl
 have e2:Zmy a=(Zdf (Zf0 a) 47).2.1:=rfl
 have e3:rIs a=(Zdf (Zf0 a) 47).2.2:=rfl
 have hmA:=ZkO a
 have hneg:Zlz a=(a.head? ==some 45):=rfl
 obtain⟨S,hS⟩: ∃s,Zf0 a=s:=⟨_,rfl⟩
 have hend:=Zyd S
 have hcf:=fun h=>Zkl (s:=S) h
 rw[hS]at e1 e2 e3 hc1 hc2 ha1 hmA
 obtain⟨m,hm⟩: ∃m,Zlz a=m:=⟨_,rfl⟩
 rw[hm]at hP hmA hneg
 have loop: ∀i:Nat,i≤S.length→(¬ (0≤ZbN S 47 0∧ZbN S 47 0<(i:Int))→ZbN (S.drop i) 47 i=ZbN S 47 0)→(hlt:i<S.length)→
  (((S[i].toNat:Int)=47∧(stE S i).1=1→stE S (i+1)=(2,S.take i,S.drop (i+1)))∧(¬ ((S[i].toNat:Int)=47∧(stE S i).1=1)→stE S (i+1)=stE S i)∧(¬ (0≤ZbN S 47 0∧ZbN S 47 0<((i+1:Nat):Int))→ZbN (S.drop (i+1)) 47 (i+1)=ZbN S 47 0)):=by
  intro i hi he hlt
  by_cases hin:0≤ZbN S 47 0∧ZbN S 47 0<(i:Int)
  ·have s1:stE S i=(2,(Zdf S 47).1,(Zdf S 47).2.1):=by
    unfold stE
    rw[decide_eq_true hin.1,decide_eq_true hin.2]
    rfl
   have s2:stE S (i+1)=(2,(Zdf S 47).1,(Zdf S 47).2.1):=by
    unfold stE
    rw[decide_eq_true hin.1,decide_eq_true (by omega:ZbN S 47 0<((i+1:Nat):Int))]
    rfl
   rw[s1,s2]
   exact⟨fun h=>absurd h.2 (show ¬ (2:Int)=1 by decide),fun _=>rfl,fun h=>absurd ⟨hin.1,by omega⟩ h⟩
  ·have he:=he hin
   have s1:stE S i=(1,S,[50]):=by
    unfold stE
    have:(decide (0≤ZbN S 47 0)&&decide (ZbN S 47 0<(i:Int)))=false:=by
     rw[Bool.and_eq_false_iff,decide_eq_false_iff_not,decide_eq_false_iff_not]
     omega
    rw[this]
   rw[List.drop_eq_getElem_cons hlt,ZbN,←ZBu]at he
   cases hx:decide ((S[i].toNat:Int)=47)with
   |true=>
    rw[hx]at he
    simp only at he
    have hC:=ZgK he.symm
    refine⟨fun _=> ?_,fun h=>absurd ⟨of_decide_eq_true hx,by rw[s1]⟩ h,fun h=>absurd ⟨by omega,by omega⟩ h⟩
    unfold stE
    rw[decide_eq_true (by omega:0≤ZbN S 47 0),decide_eq_true (by omega:ZbN S 47 0<((i+1:Nat):Int)),hC]
    rfl
   |false=>
    rw[hx]at he
    simp only at he
    have hge:=ZuF (S.drop (i+1)) 47 (i+1)
    refine⟨fun h=>absurd h.1 (of_decide_eq_false hx),fun _=> ?_,fun _=>he⟩
    rw[s1]
    unfold stE
    have:(decide (0≤ZbN S 47 0)&&decide (ZbN S 47 0<((i+1:Nat):Int)))=false:=by
     rw[Bool.and_eq_false_iff,decide_eq_false_iff_not,decide_eq_false_iff_not]
     rcases hge with hge|hge<;>omega
    rw[this]
 have st0:stE S 0=(1,S,[50]):=by
  unfold stE
  have:(decide (0≤ZbN S 47 0)&&decide (ZbN S 47 0<((0:Nat):Int)))=false:=by
   rw[Bool.and_eq_false_iff,decide_eq_false_iff_not,decide_eq_false_iff_not]
   omega
  rw[this]
 obtain⟨⟨n,d,is⟩,hcut⟩: ∃x,Zdf S 47=x:=⟨_,rfl⟩
 rw[hcut]at e1 e2 e3 hc1 hc2 hend hcf
 simp only at e1 e2 e3 hc1 hc2 hend hcf
 rw[e1]at hP hBad
 rw[e2]at hBad hE2
 rw[e3]at hBad hE2
 have hNn:=Zhl n (by omega)
 have hNd:=Zhl d (by omega)
 obtain⟨B,hB⟩: ∃x,Zw5 a=x:=⟨_,rfl⟩
 obtain⟨E1,hE1⟩: ∃x,Zay n=x:=⟨_,rfl⟩
 rw[hB]at hBad
 rw[hB,hE1]at hP
 rw[hE1]at hNn
 rw[hP]
 refine Zas ?_
 refine Zad ?_
 refine Zaq ?_
 refine Zas ?_
 iterate 4 refine Zad ?_
 refine Zaq ?_
 by_cases hane:a=[]
 have hm0:m=false:=by rw[hneg,hane];rfl
 have hS0:S=[]:=by rw[hm0,hane]at hmA;exact hmA
 have hlen:decide ((0:Int)<(a.length:Int))=false:=by rw[hane];rfl
 have eA:S=a:=hS0.trans hane.symm
 refine Zas ?_
 iterate 4 refine Zad ?_
 refine ZaL hlen ?_
 refine ZaL hlen ?_
 refine ZaL hlen ?_
 refine ZaW hlen ?_
 refine Zaq ?_
 refine brF rfl ?_
 rotate_left 1
 obtain⟨c,l,hcl⟩: ∃c l,a=c::l:=List.exists_cons_of_ne_nil hane
 have hlen:decide ((0:Int)<(a.length:Int))=true:=by rw[hcl];exact decide_eq_true (by simp only[List.length_cons];omega)
 have hc0:a[(0:Int).toNat]? =some c:=by rw[hcl];rfl
 have hcm:decide ((c.toNat:Int)=45)=m:=by rw[ZBk,hneg,hcl];rfl
 refine Zas ?_
 iterate 4 refine Zad ?_
 refine Zae hlen ?_
 refine Zio rfl rfl rfl hlen (fun _=>rfl) (Int.le_refl 0) hc0 rfl rfl ?_
 refine Zae hlen ?_
 refine ZaY hlen ?_
 refine Zaq ?_
 refine And.intro (fun h=> ?_) (fun h=> ?_)
 have hm1:m=true:=hcm.symm.trans h
 refine And.intro (show 0≤(1:Int)∧(1:Int)≤(a.length:Int)from⟨by decide,by have:=of_decide_eq_true hlen;omega⟩) ?_
 have eA:S=(a.take a.length).drop (1:Int).toNat:=by
  rw[hm1]at hmA
  rw[List.take_length,←hmA]
  rfl
 have hm0:m=true:=hm1
 rotate_left 1
 have hm0:m=false:=hcm.symm.trans h
 have eA:S=a:=by
  rw[hm0]at hmA
  exact hmA
 all_goals
  refine Zat Zaa rfl (reC S m) (fun _=> [])
   (fun t=>t.1≤S.length∧(¬ (0≤ZbN S 47 0∧ZbN S 47 0<(t.1:Int))→ZbN (S.drop t.1) 47 t.1=ZbN S 47 0)∧t.2=stE S t.1) (fun t=>S.length-t.1) ?_ (0,1,S,[50]) ?_ ?_
  ·rintro⟨i,many,nn,dd⟩ ⟨hi,he,hst⟩
   simp only at hi he hst
   refine And.intro (fun h=> ?_) (fun h=> ?_)
   ·have hlt:i<S.length:=by have h':(i:Int)<(S.length:Int):=of_decide_eq_true h;omega
    obtain⟨g1,g2,g3⟩:=loop i hi he hlt
    rw[←hst]at g1 g2
    obtain⟨x,hx⟩: ∃x,S[i]=x:=⟨_,rfl⟩
    have gx:S[(i:Int).toNat]? =some x:=by rw[Int.toNat_natCast,List.getElem?_eq_getElem hlt,hx]
    rw[hx]at g1 g2
    have wi:IntKind.i64.wrap ((i:Int)+1)=((i+1:Nat):Int):=Zah (by omega) (by omega)
    cases b1:decide ((x.toNat:Int)=47)with
    |true=>
     refine Zas ?_
     iterate 2 refine Zad ?_
     refine Zaq ?_
     refine Zas ?_
     iterate 2 refine Zad ?_
     refine ZcM rfl (fun _=>rfl) (Int.natCast_nonneg i) gx rfl rfl ?_
     iterate 2 refine Zad ?_
     refine Zae b1 ?_
     refine Zae b1 ?_
     refine ZaY b1 ?_
     refine Zaq ?_
     refine And.intro (fun h2=> ?_) (fun h2=> ?_)
     ·have h2':many=1:=of_decide_eq_true h2
      have hn:=g1 ⟨of_decide_eq_true b1,h2'⟩
      refine And.intro (show 0≤(i:Int)∧(i:Int)≤(S.length:Int)by omega) ?_
      refine And.intro (show 0≤IntKind.i64.wrap ((i:Int)+1)∧IntKind.i64.wrap ((i:Int)+1)≤(S.length:Int)by rw[wi];omega) ?_
      refine⟨(i+1,2,S.take i,S.drop (i+1)),⟨hlt,g3,hn.symm⟩,by show S.length-(i+1)<S.length-i;omega, ?_⟩
      refine Zal rfl rfl ?_ ?_
      ·have q2:S.drop (i+1)=(S.take S.length).drop (IntKind.i64.wrap ((i:Int)+1)).toNat:=by
        rw[wi,Int.toNat_natCast,List.take_length]
       exact⟨rfl,rfl,rfl,rfl,q2,rfl,wi.symm,trivial⟩
      ·exact trivial
     ·have h2': ¬many=1:=of_decide_eq_false h2
      have hn:=g2 (fun h=>h2' h.2)
      refine⟨(i+1,many,nn,dd),⟨hlt,g3,hn.symm⟩,by show S.length-(i+1)<S.length-i;omega, ?_⟩
      refine Zal rfl rfl ?_ ?_
      ·exact⟨rfl,rfl,rfl,rfl,rfl,rfl,wi.symm,trivial⟩
      ·exact trivial
    |false=>
     refine Zas ?_
     iterate 2 refine Zad ?_
     refine Zaq ?_
     refine Zas ?_
     iterate 2 refine Zad ?_
     refine ZcM rfl (fun _=>rfl) (Int.natCast_nonneg i) gx rfl rfl ?_
     iterate 2 refine Zad ?_
     refine ZaL b1 ?_
     refine ZaL b1 ?_
     refine ZaW b1 ?_
     refine Zaq ?_
     refine brF rfl ?_
     have hn:=g2 (fun h=>absurd h.1 (of_decide_eq_false b1))
     refine⟨(i+1,many,nn,dd),⟨hlt,g3,hn.symm⟩,by show S.length-(i+1)<S.length-i;omega, ?_⟩
     refine Zal rfl rfl ?_ ?_
     ·exact⟨rfl,rfl,rfl,rfl,rfl,rfl,wi.symm,trivial⟩
     ·exact trivial
   ·have hi2:i=S.length:=by have h': ¬ (i:Int)<(S.length:Int):=of_decide_eq_false h;omega
    rw[hi2,hend]at hst
    clear loop he
    cases is with
    |false=>
     have hcf:=hcf rfl
     have hnS:S=n:=by have:=congrArg Prod.fst hcf;exact this.symm
     simp only[Prod.mk.injEq]at hst
     obtain⟨q1,q2,q3⟩:=hst
     rw[hnS]at q2
     subst q1 q2 q3
     simp only[Bool.false_and]at hBad hE2
     rw[hE2]at*
     subst hBad
     refine hNn.mono ?_
     rintro _ rfl
     have hN2:=Zhl [50] (by decide)
     rw[Zq0]at hN2
     refine hN2.mono ?_
     rintro _ rfl
     cases b1:decide (E1=5)with
     |true=>
      refine Zas ?_
      iterate 3 refine Zad ?_
      refine ZaL b1 ?_
      refine ZaL b1 ?_
      refine ZaY b1 ?_
      refine Zad ?_
      refine ZaL rfl ?_
      refine ZaL rfl ?_
      refine ZgC ?_
      refine ZgC ?_
      refine ZaL rfl ?_
      refine ZaY rfl ?_
      refine Zad ?_
      refine Zaq ?_
      refine brT rfl ?_
      simp only[Zg9,b1,Bool.true_or]
      rfl
     |false=>
     cases m
     refine Zas ?_
     iterate 3 refine Zad ?_
     refine Zae b1 ?_
     refine Zae b1 ?_
     refine ZaW b1 ?_
     refine Zad ?_
     refine Zae rfl ?_
     refine Zae rfl ?_
     refine ZaL rfl ?_
     refine ZaL rfl ?_
     refine Zeu rfl rfl rfl rfl rfl rfl rfl rfl rfl rfl ?_
     refine ZaW rfl ?_
     refine Zad ?_
     refine Zaq ?_
     refine brF rfl ?_
     have h':((nn==[48])&&false)=false:=Bool.and_false _
     rotate_left 1
     cases b3:nn==[48]
     rotate_left 1
     refine Zas ?_
     iterate 3 refine Zad ?_
     refine Zae b1 ?_
     refine Zae b1 ?_
     refine ZaW b1 ?_
     refine Zad ?_
     refine Zae rfl ?_
     refine Zae rfl ?_
     refine Zae rfl ?_
     refine Zae rfl ?_
     refine ZdA rfl rfl rfl rfl rfl rfl rfl rfl rfl rfl ?_
     refine ZaW rfl ?_
     refine Zad ?_
     refine Zaq ?_
     refine brT b3 ?_
     ·simp only[Zg9,b1,b3]
      rfl
     rotate_left 1
     refine Zas ?_
     iterate 3 refine Zad ?_
     refine Zae b1 ?_
     refine Zae b1 ?_
     refine ZaW b1 ?_
     refine Zad ?_
     refine Zae rfl ?_
     refine Zae rfl ?_
     refine Zae rfl ?_
     refine Zae rfl ?_
     refine ZdA rfl rfl rfl rfl rfl rfl rfl rfl rfl rfl ?_
     refine ZaW rfl ?_
     refine Zad ?_
     refine Zaq ?_
     refine brF b3 ?_
     have h':(false&&true)=false:=rfl
     all_goals
      cases b0:decide (E1=0)with
      |false=>
       have hn:(!decide (E1=0))=true:=by rw[b0];rfl
       refine Zas ?_
       iterate 3 refine Zad ?_
       refine ZaL hn ?_
       refine ZaL hn ?_
       refine ZaY hn ?_
       refine Zad ?_
       refine Zaq ?_
       refine brT hn ?_
       simp only[Zg9,b1,b0,h']
       rfl
      |true=>
      have hn:(!decide (E1=0))=false:=by rw[b0];rfl
      refine Zas ?_
      iterate 3 refine Zad ?_
      refine Zae hn ?_
      refine Zae hn ?_
      refine ZaW hn ?_
      refine Zad ?_
      refine Zaq ?_
      refine brF rfl ?_
      refine Zas ?_
      iterate 3 refine Zad ?_
      refine ZaL rfl ?_
      refine ZaL rfl ?_
      refine ZaL rfl ?_
      refine ZgC ?_
      refine ZgC ?_
      refine ZaL rfl ?_
      refine ZaL rfl ?_
      refine ZgC ?_
      refine ZgC ?_
      refine ZgC ?_
      refine ZgC ?_
      refine ZaL rfl ?_
      refine ZaW rfl ?_
      refine Zad ?_
      refine Zaq ?_
      refine brF rfl ?_
      simp only[Zg9,b1,b0,h']
      rfl
    |true=>
     simp only[Prod.mk.injEq]at hst
     obtain⟨q1,q2,q3⟩:=hst
     subst q1 q2 q3
     simp only[Bool.true_and]at hBad hE2
     obtain⟨E2,hE2'⟩: ∃x,Zay dd=x:=⟨_,rfl⟩
     rw[hE2']at hE2 hNd
     rw[hE2]
     refine hNn.mono ?_
     rintro _ rfl
     refine hNd.mono ?_
     rintro _ rfl
     cases b1:decide (E1=5)with
     |true=>
      refine Zas ?_
      iterate 3 refine Zad ?_
      refine ZaL b1 ?_
      refine ZaL b1 ?_
      refine ZaY b1 ?_
      refine Zad ?_
      refine ZaL rfl ?_
      refine ZaL rfl ?_
      refine ZgC ?_
      refine ZgC ?_
      refine ZaL rfl ?_
      refine ZaY rfl ?_
      refine Zad ?_
      refine Zaq ?_
      refine brT rfl ?_
      simp only[Zg9,b1,Bool.true_or]
      rfl
     |false=>
     cases b2:decide (E2=5)with
     |true=>
      refine Zas ?_
      iterate 3 refine Zad ?_
      refine Zae b1 ?_
      refine Zae b1 ?_
      refine ZaW b1 ?_
      refine Zad ?_
      refine ZaL b2 ?_
      refine ZaL b2 ?_
      refine ZgC ?_
      refine ZgC ?_
      refine ZaL b2 ?_
      refine ZaY b2 ?_
      refine Zad ?_
      refine Zaq ?_
      refine brT b2 ?_
      simp only[Zg9,b1,b2]
      rfl
     |false=>
     cases m
     refine Zas ?_
     iterate 3 refine Zad ?_
     refine Zae b1 ?_
     refine Zae b1 ?_
     refine ZaW b1 ?_
     refine Zad ?_
     refine Zae b2 ?_
     refine Zae b2 ?_
     refine ZaL rfl ?_
     refine ZaL rfl ?_
     refine Zeu rfl rfl rfl b2 rfl rfl rfl rfl rfl rfl ?_
     refine ZaW b2 ?_
     refine Zad ?_
     refine Zaq ?_
     refine brF rfl ?_
     have h':((nn==[48])&&false)=false:=Bool.and_false _
     rotate_left 1
     cases b3:nn==[48]
     rotate_left 1
     refine Zas ?_
     iterate 3 refine Zad ?_
     refine Zae b1 ?_
     refine Zae b1 ?_
     refine ZaW b1 ?_
     refine Zad ?_
     refine Zae b2 ?_
     refine Zae b2 ?_
     refine Zae rfl ?_
     refine Zae rfl ?_
     refine ZdA rfl rfl rfl b2 rfl rfl rfl rfl rfl rfl ?_
     refine ZaW b2 ?_
     refine Zad ?_
     refine Zaq ?_
     refine brT b3 ?_
     ·simp only[Zg9,b1,b2,b3]
      rfl
     rotate_left 1
     refine Zas ?_
     iterate 3 refine Zad ?_
     refine Zae b1 ?_
     refine Zae b1 ?_
     refine ZaW b1 ?_
     refine Zad ?_
     refine Zae b2 ?_
     refine Zae b2 ?_
     refine Zae rfl ?_
     refine Zae rfl ?_
     refine ZdA rfl rfl rfl b2 rfl rfl rfl rfl rfl rfl ?_
     refine ZaW b2 ?_
     refine Zad ?_
     refine Zaq ?_
     refine brF b3 ?_
     have h':(false&&true)=false:=rfl
     all_goals
      cases b0:decide (E1=0)with
      |false=>
       have hn:(!decide (E1=0))=true:=by rw[b0];rfl
       refine Zas ?_
       iterate 3 refine Zad ?_
       refine ZaL hn ?_
       refine ZaL hn ?_
       refine ZaY hn ?_
       refine Zad ?_
       refine Zaq ?_
       refine brT hn ?_
       simp only[Zg9,b1,b2,b0,h']
       rfl
      |true=>
      have hn:(!decide (E1=0))=false:=by rw[b0];rfl
      cases c0:decide (E2=0)with
      |false=>
       have hn2:(!decide (E2=0))=true:=by rw[c0];rfl
       refine Zas ?_
       iterate 3 refine Zad ?_
       refine Zae hn ?_
       refine Zae hn ?_
       refine ZaW hn ?_
       refine Zad ?_
       refine Zaq ?_
       refine brT hn2 ?_
       simp only[Zg9,b1,b2,b0,c0,h']
       rfl
      |true=>
       have hn2:(!decide (E2=0))=false:=by rw[c0];rfl
       refine Zas ?_
       iterate 3 refine Zad ?_
       refine Zae hn ?_
       refine Zae hn ?_
       refine ZaW hn ?_
       refine Zad ?_
       refine Zaq ?_
       refine brF hn2 ?_
       have z1:Zay nn=0:=hE1.trans (of_decide_eq_true b0)
       have z2:Zay dd=0:=hE2'.trans (of_decide_eq_true c0)
       obtain⟨cn,ln⟩:=Za6 z1
       obtain⟨cd,ld⟩:=Za6 z2
       have hGd:=Zpo nn dd cn cd (by omega) (by omega)
       have q1:=ZB3 cd
       have q2:=ZzP cd
       have q3:=ZzP (Za9 (Nat.gcd (dec nn) (dec dd)))
       rw[Zao]at q3
       obtain⟨g,hg⟩: ∃x,decDigits (Nat.gcd (dec nn) (dec dd))=x:=⟨_,rfl⟩
       rw[hg]at q3 hGd
       rw[←q1,←q2,←q3]at hBad
       cases d1:dd==[48]with
       |true=>
        refine Zas ?_
        iterate 3 refine Zad ?_
        refine Zae rfl ?_
        refine Zae rfl ?_
        refine Zae rfl ?_
        refine ZaL d1 ?_
        refine ZaL d1 ?_
        refine ZdA rfl rfl rfl rfl rfl rfl d1 rfl rfl rfl ?_
        refine Zae rfl ?_
        refine ZaL rfl ?_
        refine ZaL rfl ?_
        refine ZaL rfl ?_
        refine ZaL rfl ?_
        refine ZdA rfl rfl rfl rfl rfl rfl rfl rfl rfl rfl ?_
        refine ZaY rfl ?_
        refine Zad ?_
        refine Zaq ?_
        refine brT d1 ?_
        rw[d1,Bool.true_or]at hBad
        simp only[Zg9,b1,b2,b0,c0,h',hBad]
        rfl
       |false=>
       cases d2:dd==[49]with
       |true=>
        refine Zas ?_
        iterate 3 refine Zad ?_
        refine Zae rfl ?_
        refine Zae rfl ?_
        refine Zae rfl ?_
        refine Zae d1 ?_
        refine Zae d1 ?_
        refine Zeu rfl rfl rfl rfl rfl rfl d1 rfl rfl rfl ?_
        refine Zae rfl ?_
        refine ZaL d2 ?_
        refine ZaL d2 ?_
        refine ZaL d2 ?_
        refine ZaL d2 ?_
        refine ZdA rfl rfl rfl rfl rfl rfl d2 rfl rfl rfl ?_
        refine ZaY rfl ?_
        refine Zad ?_
        refine Zaq ?_
        refine brT d2 ?_
        rw[d1,d2,Bool.false_or,Bool.true_or]at hBad
        simp only[Zg9,b1,b2,b0,c0,h',hBad]
        rfl
       |false=>
        refine Zas ?_
        iterate 3 refine Zad ?_
        refine Zae rfl ?_
        refine Zae rfl ?_
        refine Zae rfl ?_
        refine Zae d1 ?_
        refine Zae d1 ?_
        refine Zeu rfl rfl rfl rfl rfl rfl d1 rfl rfl rfl ?_
        refine Zae rfl ?_
        refine Zae d2 ?_
        refine Zae d2 ?_
        refine ZaP rfl rfl rfl d2 ((hGd).mono ?_)
        rintro _ rfl
        refine Zab rfl rfl ?_
        refine Zae d2 ?_
        refine Zeu rfl rfl rfl rfl rfl rfl d2 rfl rfl rfl ?_
        refine ZaY rfl ?_
        refine Zad ?_
        refine Zaq ?_
        rw[d1,d2,Bool.false_or,Bool.false_or]at hBad
        refine And.intro (fun h=> ?_) (fun h=> ?_)
        ·have h2:(!(g==[49]))=true:=h
         simp only[Zg9,b1,b2,b0,c0,h',hBad,h2]
         rfl
        ·have h2:(!(g==[49]))=false:=h
         simp only[Zg9,b1,b2,b0,c0,h',hBad,h2]
         rfl
  ·exact⟨Nat.zero_le _,fun _=>rfl,st0.symm⟩
  ·refine Zal rfl rfl ?_ ?_
   ·exact⟨eA,hm0,rfl,eA,rfl,by rw[eA];rfl,rfl,trivial⟩
   ·exact trivial
set_option maxHeartbeats 4000000 in
theorem ZnN (l:List (List UInt8)) (hl:l.length≤1000000) (hs: ∀a∈l,a.length≤9223372036854775806):PureOK Tryz.prog Zan 80 [.v (.l .s) l] (fun V=>V= .v (.i .i64) (ZfF l)):=by
 refine Zac Zaa Tryz.func80 ?_
 refine Zat Zaa rfl (fun(i:Nat)=> [(0, .v (.l .s) l),(6, .v (.l .s) l),(7, .v (.i .i64) (l.length:Int)),(8, .v (.i .i64) (i:Int))]) (fun _=> [])
  (fun i=>i≤l.length∧ZfF (l.drop i)=ZfF l) (fun i=>l.length-i) ?_ 0 ?_ ?_
 ·rintro i ⟨hi,he⟩
  refine And.intro (fun h=> ?_) (fun h=> ?_)
  ·have hlt:i<l.length:=by have h':(i:Int)<(l.length:Int):=of_decide_eq_true h;omega
   obtain⟨x,hx⟩: ∃x,l[i]=x:=⟨_,rfl⟩
   have gx:l[(i:Int).toNat]? =some x:=by rw[Int.toNat_natCast,List.getElem?_eq_getElem hlt,hx]
   have hxl:=hs x (hx▸List.getElem_mem hlt)
   rw[List.drop_eq_getElem_cons hlt,hx,ZfF]at he
   refine⟨x,Int.natCast_nonneg i,gx, ?_⟩
   refine(Zrm x hxl).mono ?_
   rintro _ rfl
   refine And.intro (fun h2=> ?_) (fun h2=> ?_)
   ·have h2':(!decide (ZbK x=0))=true:=h2
    have hd:decide (ZbK x=0)=false:=by cases hd:decide (ZbK x=0)<;>simp[hd]at h2'⊢
    rw[hd]at he
    exact congrArg (SV.v (.i .i64)) he
   ·have h2':(!decide (ZbK x=0))=false:=h2
    have hd:decide (ZbK x=0)=true:=by cases hd:decide (ZbK x=0)<;>simp[hd]at h2'⊢
    rw[hd]at he
    have wi:IntKind.i64.wrap ((i:Int)+1)=((i+1:Nat):Int):=Zah (by omega) (by omega)
    refine⟨i+1,⟨hlt,he⟩,by show l.length-(i+1)<l.length-i;omega, ?_⟩
    refine Zal rfl rfl ?_ ?_
    ·exact⟨rfl,rfl,rfl,wi.symm,trivial⟩
    ·exact trivial
  ·have hi2:i=l.length:=by have h': ¬ (i:Int)<(l.length:Int):=of_decide_eq_false h;omega
   rw[List.drop_of_length_le (by omega)]at he
   exact congrArg (SV.v (.i .i64)) he
 ·exact⟨Nat.zero_le _,rfl⟩
 ·refine Zal rfl rfl ?_ ?_
  ·exact⟨rfl,rfl,rfl,rfl,trivial⟩
  ·exact trivial
end Go.Proofs.YtdnodlkdndfplaaGreatDoor

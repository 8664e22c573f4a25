/- The reference: RatError, RatErrors. -/
import Derived.Test.YtapbiodcncnnfaaGreatDoorQ4
set_option linter.all false
set_option maxHeartbeats 16000000
set_option maxRecDepth 100000
namespace Go.Proofs.YtapbiodcncnnfaaGreatDoor
open Go.Am Go.Tx Dv Go.Lib
theorem Zsr: ∀ (l:List UInt8) (c:UInt8) (i:Nat),ZbV l c i= -1∨(i:Int)≤ZbV l c i
 | [],_,_=> .inl rfl
 |b::l,c,i=>by
  rw[ZbV]
  cases Nat.beq b.toNat c.toNat with
  |true=>exact .inr (XaT _)
  |false=>
   rcases Zsr l c (i+1)with h|h
   ·exact .inl h
   ·right
    simp only
    omega
def stE (s:List UInt8) (i:Nat):Int×List UInt8×List UInt8:=match decide (0≤ZbV s 47 0)&&decide (ZbV s 47 0<(i:Int))with
 |true=>(2,(ZdA s 47).1,(ZdA s 47).2.1)
 |false=>(1,s,[50])
theorem ZwS (s:List UInt8):stE s s.length=match(ZdA s 47).2.2 with
 |true=>(2,(ZdA s 47).1,(ZdA s 47).2.1)
 |false=>(1,s,[50]):=by
 have h:=ZvZ s 47
 unfold stE
 cases j:decide (0≤ZbV s 47 0)with
 |true=>
  rw[decide_eq_true h.2]
  obtain⟨k,C,_⟩:=ZgO s 47 0 (of_decide_eq_true j)
  rw[Xaq]at C
  rw[Zg7 C]
  rfl
 |false=>
  have:ZbV s 47 0= -1:=by have:=of_decide_eq_false j;omega
  rw[Zgu this]
  rfl
theorem ZAQ (c:UInt8):decide ((c.toNat:Int)=47)=Nat.beq c.toNat (47:UInt8).toNat:=by
 rw[Xbh,decide_eq_true_eq,Nat.beq_eq]
 show _↔c.toNat=47
 omega
theorem ZAv (c:UInt8):decide ((c.toNat:Int)=45)=(some c==some (45:UInt8)):=by
 rw[Xbh,decide_eq_true_eq,beq_iff_eq,Xaf]
 constructor
 ·intro h
  exact UInt8.toNat_inj.1 (by show c.toNat=45;omega)
 ·rintro rfl;rfl
theorem Zqi:ZaE [50]=0:=by
 have h:=Zrj (Zbi 2) (by rw[decDigits_one (by decide)];decide)
 rw[decDigits_one (by decide)]at h
 exact h
abbrev reC (S:List UInt8) (m:Bool) (t:Nat×Int×List UInt8×List UInt8):TM:=[(3, .v .s S),(4, .v .b m),(5, .v (.i .i64) t.2.1),(6, .v .s t.2.2.1),(7, .v .s t.2.2.2),(24, .v (.i .i64) (S.length:Int)),(25, .v (.i .i64) (t.1:Int))]
theorem Zqf (a:List UInt8) (hl:a.length≤9223372036854775806):PureOK Tryz.prog Zao 56 [.v .s a] (fun V=>V= .v (.i .i64) (Zb3 a)):=by
 refine Zai Zag Tryz.func56 ?_
 obtain⟨a1,bc⟩:=Ztk a
 obtain⟨aj,ak⟩:=ZrB (ZgC a) 47
 have hP:=ZhK a
 have C:ZvX a=(rIs a&&(decide (dec (ZnL a)=0)||(decide (dec (ZnL a)=1)|| !decide (Nat.gcd (dec (Zhe a)) (dec (ZnL a))=1)))):=rfl
 have aa:rE2 a=match rIs a with|true=>ZaE (ZnL a)|false=>0:=rfl
 have e1:Zhe a=(ZdA (ZgC a) 47).1:=rfl
 have e2:ZnL a=(ZdA (ZgC a) 47).2.1:=rfl
 have e3:rIs a=(ZdA (ZgC a) 47).2.2:=rfl
 have J:=Zlt a
 have ad:ZkV a=(a.head? ==some 45):=rfl
 obtain⟨S,hS⟩: ∃s,ZgC a=s:=⟨_,rfl⟩
 have ae:=ZwS S
 have af:=fun h=>Zj1 (s:=S) h
 rw[hS]at e1 e2 e3 aj ak a1 J
 obtain⟨m,hm⟩: ∃m,ZkV a=m:=⟨_,rfl⟩
 rw[hm]at hP J ad
 have loop: ∀i:Nat,i≤S.length→(¬ (0≤ZbV S 47 0∧ZbV S 47 0<(i:Int))→ZbV (S.drop i) 47 i=ZbV S 47 0)→(R:i<S.length)→
  (((S[i].toNat:Int)=47∧(stE S i).1=1→stE S (i+1)=(2,S.take i,S.drop (i+1)))∧(¬ ((S[i].toNat:Int)=47∧(stE S i).1=1)→stE S (i+1)=stE S i)∧(¬ (0≤ZbV S 47 0∧ZbV S 47 0<((i+1:Nat):Int))→ZbV (S.drop (i+1)) 47 (i+1)=ZbV S 47 0)):=by
  intro i hi he R
  by_cases ag:0≤ZbV S 47 0∧ZbV S 47 0<(i:Int)
  ·have s1:stE S i=(2,(ZdA S 47).1,(ZdA S 47).2.1):=by
    unfold stE
    rw[decide_eq_true ag.1,decide_eq_true ag.2]
    rfl
   have s2:stE S (i+1)=(2,(ZdA S 47).1,(ZdA S 47).2.1):=by
    unfold stE
    rw[decide_eq_true ag.1,decide_eq_true (by omega:ZbV S 47 0<((i+1:Nat):Int))]
    rfl
   rw[s1,s2]
   exact⟨fun h=>absurd h.2 (show ¬ (2:Int)=1 by decide),fun _=>rfl,fun h=>absurd ⟨ag.1,by omega⟩ h⟩
  ·have he:=he ag
   have s1:stE S i=(1,S,[50]):=by
    unfold stE
    have:(decide (0≤ZbV S 47 0)&&decide (ZbV S 47 0<(i:Int)))=false:=by
     rw[Bool.and_eq_false_iff,decide_eq_false_iff_not,decide_eq_false_iff_not]
     omega
    rw[this]
   rw[Xaz R,ZbV,←ZAQ]at he
   cases hx:decide ((S[i].toNat:Int)=47)with
   |true=>
    rw[hx]at he
    simp only at he
    have hC:=Zg7 he.symm
    refine⟨fun _=> ?_,fun h=>absurd ⟨of_decide_eq_true hx,by rw[s1]⟩ h,fun h=>absurd ⟨by omega,by omega⟩ h⟩
    unfold stE
    rw[decide_eq_true (by omega:0≤ZbV S 47 0),decide_eq_true (by omega:ZbV S 47 0<((i+1:Nat):Int)),hC]
    rfl
   |false=>
    rw[hx]at he
    simp only at he
    have hge:=Zsr (S.drop (i+1)) 47 (i+1)
    refine⟨fun h=>absurd h.1 (of_decide_eq_false hx),fun _=> ?_,fun _=>he⟩
    rw[s1]
    unfold stE
    have:(decide (0≤ZbV S 47 0)&&decide (ZbV S 47 0<((i+1:Nat):Int)))=false:=by
     rw[Bool.and_eq_false_iff,decide_eq_false_iff_not,decide_eq_false_iff_not]
     rcases hge with hge|hge<;>omega
    rw[this]
 have a6:stE S 0=(1,S,[50]):=by
  unfold stE
  have:(decide (0≤ZbV S 47 0)&&decide (ZbV S 47 0<((0:Nat):Int)))=false:=by
   rw[Bool.and_eq_false_iff,decide_eq_false_iff_not,decide_eq_false_iff_not]
   omega
  rw[this]
 obtain⟨⟨n,d,is⟩,au⟩: ∃x,ZdA S 47=x:=⟨_,rfl⟩
 rw[au]at e1 e2 e3 aj ak ae af
 simp only at e1 e2 e3 aj ak ae af
 rw[e1]at hP C
 rw[e2]at C aa
 rw[e3]at C aa
 have al:=Zg0 n (by omega)
 have av:=Zg0 d (by omega)
 obtain⟨B,hB⟩: ∃x,ZvX a=x:=⟨_,rfl⟩
 obtain⟨E1,an⟩: ∃x,ZaE n=x:=⟨_,rfl⟩
 rw[hB]at C
 rw[hB,an]at hP
 rw[an]at al
 rw[hP]
 refine Zae ?_
 refine Zac ?_
 refine Zaf ?_
 refine Zae ?_
 iterate 4 refine Zac ?_
 refine Zaf ?_
 by_cases U:a=[]
 have ah:m=false:=by rw[ad,U];rfl
 have a7:S=[]:=by rw[ah,U]at J;exact J
 have hlen:decide ((0:Int)<(a.length:Int))=false:=by rw[U];rfl
 have eA:S=a:=a7.trans U.symm
 refine Zae ?_
 iterate 4 refine Zac ?_
 refine Zah hlen ?_
 refine Zah hlen ?_
 refine Zah hlen ?_
 refine Zal hlen ?_
 refine Zaf ?_
 refine brF rfl ?_
 rotate_left 1
 obtain⟨c,l,ao⟩: ∃c l,a=c::l:=List.exists_cons_of_ne_nil U
 have hlen:decide ((0:Int)<(a.length:Int))=true:=by rw[ao];exact decide_eq_true (by simp only[Xap];omega)
 have a8:a[(0:Int).toNat]? =some c:=by rw[ao];rfl
 have aw:decide ((c.toNat:Int)=45)=m:=by rw[ZAv,ad,ao];rfl
 refine Zae ?_
 iterate 4 refine Zac ?_
 refine Zab hlen ?_
 refine ZbZ rfl rfl rfl hlen (fun _=>rfl) (XaT 0) a8 rfl rfl ?_
 refine Zab hlen ?_
 refine Zat hlen ?_
 refine Zaf ?_
 refine Xaa (fun h=> ?_) (fun h=> ?_)
 have ax:m=true:=aw.symm.trans h
 refine Xaa (show 0≤(1:Int)∧(1:Int)≤(a.length:Int)from⟨by decide,by have:=of_decide_eq_true hlen;omega⟩) ?_
 have eA:S=(a.take a.length).drop (1:Int).toNat:=by
  rw[ax]at J
  rw[XaC,←J]
  rfl
 have ah:m=true:=ax
 rotate_left 1
 have ah:m=false:=aw.symm.trans h
 have eA:S=a:=by
  rw[ah]at J
  exact J
 all_goals
  refine Zaw Zag rfl (reC S m) (fun _=> [])
   (fun t=>t.1≤S.length∧(¬ (0≤ZbV S 47 0∧ZbV S 47 0<(t.1:Int))→ZbV (S.drop t.1) 47 t.1=ZbV S 47 0)∧t.2=stE S t.1) (fun t=>S.length-t.1) ?_ (0,1,S,[50]) ?_ ?_
  ·rintro⟨i,many,nn,dd⟩ ⟨hi,he,ab⟩
   simp only at hi he ab
   refine Xaa (fun h=> ?_) (fun h=> ?_)
   ·have R:i<S.length:=by have h':(i:Int)<(S.length:Int):=of_decide_eq_true h;omega
    obtain⟨g1,g2,g3⟩:=loop i hi he R
    rw[←ab]at g1 g2
    obtain⟨x,hx⟩: ∃x,S[i]=x:=⟨_,rfl⟩
    have gx:S[(i:Int).toNat]? =some x:=by rw[Xad,Xac R,hx]
    rw[hx]at g1 g2
    have wi:IntKind.i64.wrap ((i:Int)+1)=((i+1:Nat):Int):=Zan (by omega) (by omega)
    cases j:decide ((x.toNat:Int)=47)with
    |true=>
     refine Zae ?_
     iterate 2 refine Zac ?_
     refine Zaf ?_
     refine Zae ?_
     iterate 2 refine Zac ?_
     refine Zbb rfl (fun _=>rfl) (Xaj i) gx rfl rfl ?_
     iterate 2 refine Zac ?_
     refine Zab j ?_
     refine Zab j ?_
     refine Zat j ?_
     refine Zaf ?_
     refine Xaa (fun h2=> ?_) (fun h2=> ?_)
     ·have aq:many=1:=of_decide_eq_true h2
      have I:=g1 ⟨of_decide_eq_true j,aq⟩
      refine Xaa (show 0≤(i:Int)∧(i:Int)≤(S.length:Int)by omega) ?_
      refine Xaa (show 0≤IntKind.i64.wrap ((i:Int)+1)∧IntKind.i64.wrap ((i:Int)+1)≤(S.length:Int)by rw[wi];omega) ?_
      refine⟨(i+1,2,S.take i,S.drop (i+1)),⟨R,g3,I.symm⟩,by show S.length-(i+1)<S.length-i;omega, ?_⟩
      refine Zas rfl rfl ?_ ?_
      ·have q2:S.drop (i+1)=(S.take S.length).drop (IntKind.i64.wrap ((i:Int)+1)).toNat:=by
        rw[wi,Xad,XaC]
       exact⟨rfl,rfl,rfl,rfl,q2,rfl,wi.symm,trivial⟩
      ·exact trivial
     ·have aq: ¬many=1:=of_decide_eq_false h2
      have I:=g2 (fun h=>aq h.2)
      refine⟨(i+1,many,nn,dd),⟨R,g3,I.symm⟩,by show S.length-(i+1)<S.length-i;omega, ?_⟩
      refine Zas rfl rfl ?_ ?_
      ·exact⟨rfl,rfl,rfl,rfl,rfl,rfl,wi.symm,trivial⟩
      ·exact trivial
    |false=>
     refine Zae ?_
     iterate 2 refine Zac ?_
     refine Zaf ?_
     refine Zae ?_
     iterate 2 refine Zac ?_
     refine Zbb rfl (fun _=>rfl) (Xaj i) gx rfl rfl ?_
     iterate 2 refine Zac ?_
     refine Zah j ?_
     refine Zah j ?_
     refine Zal j ?_
     refine Zaf ?_
     refine brF rfl ?_
     have I:=g2 (fun h=>absurd h.1 (of_decide_eq_false j))
     refine⟨(i+1,many,nn,dd),⟨R,g3,I.symm⟩,by show S.length-(i+1)<S.length-i;omega, ?_⟩
     refine Zas rfl rfl ?_ ?_
     ·exact⟨rfl,rfl,rfl,rfl,rfl,rfl,wi.symm,trivial⟩
     ·exact trivial
   ·have ba:i=S.length:=by have h': ¬ (i:Int)<(S.length:Int):=of_decide_eq_false h;omega
    rw[ba,ae]at ab
    clear loop he
    cases is with
    |false=>
     have af:=af rfl
     have bb:S=n:=by have:=congrArg Prod.fst af;exact this.symm
     simp only[Prod.mk.injEq]at ab
     obtain⟨q1,q2,q3⟩:=ab
     rw[bb]at q2
     subst q1 q2 q3
     simp only[XbD]at C aa
     rw[aa]at*
     subst C
     refine al.mono ?_
     rintro _ rfl
     have ay:=Zg0 [50] (by decide)
     rw[Zqi]at ay
     refine ay.mono ?_
     rintro _ rfl
     cases j:decide (E1=5)with
     |true=>
      refine Zae ?_
      iterate 3 refine Zac ?_
      refine Zah j ?_
      refine Zah j ?_
      refine Zat j ?_
      refine Zac ?_
      refine Zah rfl ?_
      refine Zah rfl ?_
      refine Zcs ?_
      refine Zcs ?_
      refine Zah rfl ?_
      refine Zat rfl ?_
      refine Zac ?_
      refine Zaf ?_
      refine brT rfl ?_
      simp only[Zhc,j,Bool.true_or]
      rfl
     |false=>
     cases m
     refine Zae ?_
     iterate 3 refine Zac ?_
     refine Zab j ?_
     refine Zab j ?_
     refine Zal j ?_
     refine Zac ?_
     refine Zab rfl ?_
     refine Zab rfl ?_
     refine Zah rfl ?_
     refine Zah rfl ?_
     refine Za9 rfl rfl rfl rfl rfl rfl rfl rfl rfl rfl ?_
     refine Zal rfl ?_
     refine Zac ?_
     refine Zaf ?_
     refine brF rfl ?_
     have h':((nn==[48])&&false)=false:=Bool.and_false _
     rotate_left 1
     cases b3:nn==[48]
     rotate_left 1
     refine Zae ?_
     iterate 3 refine Zac ?_
     refine Zab j ?_
     refine Zab j ?_
     refine Zal j ?_
     refine Zac ?_
     refine Zab rfl ?_
     refine Zab rfl ?_
     refine Zab rfl ?_
     refine Zab rfl ?_
     refine Za0 rfl rfl rfl rfl rfl rfl rfl rfl rfl rfl ?_
     refine Zal rfl ?_
     refine Zac ?_
     refine Zaf ?_
     refine brT b3 ?_
     ·simp only[Zhc,j,b3]
      rfl
     rotate_left 1
     refine Zae ?_
     iterate 3 refine Zac ?_
     refine Zab j ?_
     refine Zab j ?_
     refine Zal j ?_
     refine Zac ?_
     refine Zab rfl ?_
     refine Zab rfl ?_
     refine Zab rfl ?_
     refine Zab rfl ?_
     refine Za0 rfl rfl rfl rfl rfl rfl rfl rfl rfl rfl ?_
     refine Zal rfl ?_
     refine Zac ?_
     refine Zaf ?_
     refine brF b3 ?_
     have h':(false&&true)=false:=rfl
     all_goals
      cases b0:decide (E1=0)with
      |false=>
       have I:(!decide (E1=0))=true:=by rw[b0];rfl
       refine Zae ?_
       iterate 3 refine Zac ?_
       refine Zah I ?_
       refine Zah I ?_
       refine Zat I ?_
       refine Zac ?_
       refine Zaf ?_
       refine brT I ?_
       simp only[Zhc,j,b0,h']
       rfl
      |true=>
      have I:(!decide (E1=0))=false:=by rw[b0];rfl
      refine Zae ?_
      iterate 3 refine Zac ?_
      refine Zab I ?_
      refine Zab I ?_
      refine Zal I ?_
      refine Zac ?_
      refine Zaf ?_
      refine brF rfl ?_
      refine Zae ?_
      iterate 3 refine Zac ?_
      refine Zah rfl ?_
      refine Zah rfl ?_
      refine Zah rfl ?_
      refine Zcs ?_
      refine Zcs ?_
      refine Zah rfl ?_
      refine Zah rfl ?_
      refine Zcs ?_
      refine Zcs ?_
      refine Zcs ?_
      refine Zcs ?_
      refine Zah rfl ?_
      refine Zal rfl ?_
      refine Zac ?_
      refine Zaf ?_
      refine brF rfl ?_
      simp only[Zhc,j,b0,h']
      rfl
    |true=>
     simp only[Prod.mk.injEq]at ab
     obtain⟨q1,q2,q3⟩:=ab
     subst q1 q2 q3
     simp only[Bool.true_and]at C aa
     obtain⟨E2,ai⟩: ∃x,ZaE dd=x:=⟨_,rfl⟩
     rw[ai]at aa av
     rw[aa]
     refine al.mono ?_
     rintro _ rfl
     refine av.mono ?_
     rintro _ rfl
     cases j:decide (E1=5)with
     |true=>
      refine Zae ?_
      iterate 3 refine Zac ?_
      refine Zah j ?_
      refine Zah j ?_
      refine Zat j ?_
      refine Zac ?_
      refine Zah rfl ?_
      refine Zah rfl ?_
      refine Zcs ?_
      refine Zcs ?_
      refine Zah rfl ?_
      refine Zat rfl ?_
      refine Zac ?_
      refine Zaf ?_
      refine brT rfl ?_
      simp only[Zhc,j,Bool.true_or]
      rfl
     |false=>
     cases b2:decide (E2=5)with
     |true=>
      refine Zae ?_
      iterate 3 refine Zac ?_
      refine Zab j ?_
      refine Zab j ?_
      refine Zal j ?_
      refine Zac ?_
      refine Zah b2 ?_
      refine Zah b2 ?_
      refine Zcs ?_
      refine Zcs ?_
      refine Zah b2 ?_
      refine Zat b2 ?_
      refine Zac ?_
      refine Zaf ?_
      refine brT b2 ?_
      simp only[Zhc,j,b2]
      rfl
     |false=>
     cases m
     refine Zae ?_
     iterate 3 refine Zac ?_
     refine Zab j ?_
     refine Zab j ?_
     refine Zal j ?_
     refine Zac ?_
     refine Zab b2 ?_
     refine Zab b2 ?_
     refine Zah rfl ?_
     refine Zah rfl ?_
     refine Za9 rfl rfl rfl b2 rfl rfl rfl rfl rfl rfl ?_
     refine Zal b2 ?_
     refine Zac ?_
     refine Zaf ?_
     refine brF rfl ?_
     have h':((nn==[48])&&false)=false:=Bool.and_false _
     rotate_left 1
     cases b3:nn==[48]
     rotate_left 1
     refine Zae ?_
     iterate 3 refine Zac ?_
     refine Zab j ?_
     refine Zab j ?_
     refine Zal j ?_
     refine Zac ?_
     refine Zab b2 ?_
     refine Zab b2 ?_
     refine Zab rfl ?_
     refine Zab rfl ?_
     refine Za0 rfl rfl rfl b2 rfl rfl rfl rfl rfl rfl ?_
     refine Zal b2 ?_
     refine Zac ?_
     refine Zaf ?_
     refine brT b3 ?_
     ·simp only[Zhc,j,b2,b3]
      rfl
     rotate_left 1
     refine Zae ?_
     iterate 3 refine Zac ?_
     refine Zab j ?_
     refine Zab j ?_
     refine Zal j ?_
     refine Zac ?_
     refine Zab b2 ?_
     refine Zab b2 ?_
     refine Zab rfl ?_
     refine Zab rfl ?_
     refine Za0 rfl rfl rfl b2 rfl rfl rfl rfl rfl rfl ?_
     refine Zal b2 ?_
     refine Zac ?_
     refine Zaf ?_
     refine brF b3 ?_
     have h':(false&&true)=false:=rfl
     all_goals
      cases b0:decide (E1=0)with
      |false=>
       have I:(!decide (E1=0))=true:=by rw[b0];rfl
       refine Zae ?_
       iterate 3 refine Zac ?_
       refine Zah I ?_
       refine Zah I ?_
       refine Zat I ?_
       refine Zac ?_
       refine Zaf ?_
       refine brT I ?_
       simp only[Zhc,j,b2,b0,h']
       rfl
      |true=>
      have I:(!decide (E1=0))=false:=by rw[b0];rfl
      cases c0:decide (E2=0)with
      |false=>
       have ar:(!decide (E2=0))=true:=by rw[c0];rfl
       refine Zae ?_
       iterate 3 refine Zac ?_
       refine Zab I ?_
       refine Zab I ?_
       refine Zal I ?_
       refine Zac ?_
       refine Zaf ?_
       refine brT ar ?_
       simp only[Zhc,j,b2,b0,c0,h']
       rfl
      |true=>
       have ar:(!decide (E2=0))=false:=by rw[c0];rfl
       refine Zae ?_
       iterate 3 refine Zac ?_
       refine Zab I ?_
       refine Zab I ?_
       refine Zal I ?_
       refine Zac ?_
       refine Zaf ?_
       refine brF ar ?_
       have z1:ZaE nn=0:=an.trans (of_decide_eq_true b0)
       have z2:ZaE dd=0:=ai.trans (of_decide_eq_true c0)
       obtain⟨cn,ln⟩:=Zbg z1
       obtain⟨cd,ld⟩:=Zbg z2
       have az:=Zoz nn dd cn cd (by omega) (by omega)
       have q1:=ZBg cd
       have q2:=ZzB cd
       have q3:=ZzB (Zbi (Nat.gcd (dec nn) (dec dd)))
       rw[Zay]at q3
       obtain⟨g,hg⟩: ∃x,decDigits (Nat.gcd (dec nn) (dec dd))=x:=⟨_,rfl⟩
       rw[hg]at q3 az
       rw[←q1,←q2,←q3]at C
       cases d1:dd==[48]with
       |true=>
        refine Zae ?_
        iterate 3 refine Zac ?_
        refine Zab rfl ?_
        refine Zab rfl ?_
        refine Zab rfl ?_
        refine Zah d1 ?_
        refine Zah d1 ?_
        refine Za0 rfl rfl rfl rfl rfl rfl d1 rfl rfl rfl ?_
        refine Zab rfl ?_
        refine Zah rfl ?_
        refine Zah rfl ?_
        refine Zah rfl ?_
        refine Zah rfl ?_
        refine Za0 rfl rfl rfl rfl rfl rfl rfl rfl rfl rfl ?_
        refine Zat rfl ?_
        refine Zac ?_
        refine Zaf ?_
        refine brT d1 ?_
        rw[d1,Bool.true_or]at C
        simp only[Zhc,j,b2,b0,c0,h',C]
        rfl
       |false=>
       cases d2:dd==[49]with
       |true=>
        refine Zae ?_
        iterate 3 refine Zac ?_
        refine Zab rfl ?_
        refine Zab rfl ?_
        refine Zab rfl ?_
        refine Zab d1 ?_
        refine Zab d1 ?_
        refine Za9 rfl rfl rfl rfl rfl rfl d1 rfl rfl rfl ?_
        refine Zab rfl ?_
        refine Zah d2 ?_
        refine Zah d2 ?_
        refine Zah d2 ?_
        refine Zah d2 ?_
        refine Za0 rfl rfl rfl rfl rfl rfl d2 rfl rfl rfl ?_
        refine Zat rfl ?_
        refine Zac ?_
        refine Zaf ?_
        refine brT d2 ?_
        rw[d1,d2,Bool.false_or,Bool.true_or]at C
        simp only[Zhc,j,b2,b0,c0,h',C]
        rfl
       |false=>
        refine Zae ?_
        iterate 3 refine Zac ?_
        refine Zab rfl ?_
        refine Zab rfl ?_
        refine Zab rfl ?_
        refine Zab d1 ?_
        refine Zab d1 ?_
        refine Za9 rfl rfl rfl rfl rfl rfl d1 rfl rfl rfl ?_
        refine Zab rfl ?_
        refine Zab d2 ?_
        refine Zab d2 ?_
        refine Zam rfl rfl rfl d2 ((az).mono ?_)
        rintro _ rfl
        refine Zaa rfl rfl ?_
        refine Zab d2 ?_
        refine Za9 rfl rfl rfl rfl rfl rfl d2 rfl rfl rfl ?_
        refine Zat rfl ?_
        refine Zac ?_
        refine Zaf ?_
        rw[d1,d2,Bool.false_or,Bool.false_or]at C
        refine Xaa (fun h=> ?_) (fun h=> ?_)
        ·have h2:(!(g==[49]))=true:=h
         simp only[Zhc,j,b2,b0,c0,h',C,h2]
         rfl
        ·have h2:(!(g==[49]))=false:=h
         simp only[Zhc,j,b2,b0,c0,h',C,h2]
         rfl
  ·exact⟨Xao _,fun _=>rfl,a6.symm⟩
  ·refine Zas rfl rfl ?_ ?_
   ·exact⟨eA,ah,rfl,eA,rfl,by rw[eA];rfl,rfl,trivial⟩
   ·exact trivial
theorem ZnT (l:List (List UInt8)) (hl:l.length≤1000000) (hs: ∀a∈l,a.length≤9223372036854775806):PureOK Tryz.prog Zao 29 [.v (.l .s) l] (fun V=>V= .v (.i .i64) (ZeK l)):=by
 refine Zai Zag Tryz.func29 ?_
 refine Zaw Zag rfl (fun(i:Nat)=> [(0, .v (.l .s) l),(6, .v (.l .s) l),(7, .v (.i .i64) (l.length:Int)),(8, .v (.i .i64) (i:Int))]) (fun _=> [])
  (fun i=>i≤l.length∧ZeK (l.drop i)=ZeK l) (fun i=>l.length-i) ?_ 0 ?_ ?_
 ·rintro i ⟨hi,he⟩
  refine Xaa (fun h=> ?_) (fun h=> ?_)
  ·have j:i<l.length:=by have h':(i:Int)<(l.length:Int):=of_decide_eq_true h;omega
   obtain⟨x,J⟩: ∃x,l[i]=x:=⟨_,rfl⟩
   have gx:l[(i:Int).toNat]? =some x:=by rw[Xad,Xac j,J]
   have R:=hs x (J▸Xax j)
   rw[Xaz j,J,ZeK]at he
   refine⟨x,Xaj i,gx, ?_⟩
   refine(Zqf x R).mono ?_
   rintro _ rfl
   refine Xaa (fun U=> ?_) (fun U=> ?_)
   ·have C:(!decide (Zb3 x=0))=true:=U
    have I:decide (Zb3 x=0)=false:=by cases I:decide (Zb3 x=0)<;>simp[I]at C⊢
    rw[I]at he
    exact congrArg (SV.v (.i .i64)) he
   ·have C:(!decide (Zb3 x=0))=false:=U
    have I:decide (Zb3 x=0)=true:=by cases I:decide (Zb3 x=0)<;>simp[I]at C⊢
    rw[I]at he
    have wi:IntKind.i64.wrap ((i:Int)+1)=((i+1:Nat):Int):=Zan (by omega) (by omega)
    refine⟨i+1,⟨j,he⟩,by show l.length-(i+1)<l.length-i;omega, ?_⟩
    refine Zas rfl rfl ?_ ?_
    ·exact⟨rfl,rfl,rfl,wi.symm,trivial⟩
    ·exact trivial
  ·have aa:i=l.length:=by have h': ¬ (i:Int)<(l.length:Int):=of_decide_eq_false h;omega
   rw[XbJ (by omega)]at he
   exact congrArg (SV.v (.i .i64)) he
 ·exact⟨Xao _,rfl⟩
 ·refine Zas rfl rfl ?_ ?_
  ·exact⟨rfl,rfl,rfl,rfl,trivial⟩
  ·exact trivial
def N90 (l:List Int):Prop:= ∀d∈l,0≤d∧d≤90
def ZAk (a b:List UInt8) (i:Nat) (x:Int) (t:Nat×List Int):TM:=[(0, .v .s a),(1, .v .s b),(5, .ref 0 0 (a.length+b.length+1) none),(6, .v (.i .i64) (i:Int)),(7, .v (.i .i64) x),(18, .v (.i .i64) (a.length:Int)),(19, .v (.i .i64) (i:Int)),(26, .v (.i .i64) (b.length:Int)),(27, .v (.i .i64) (t.1:Int))]
theorem Zvx (a b:List UInt8) (i:Nat) (x:Int) (out:List Int) (R:Dg b) (ai:a.length≤300000) (aj:b.length≤300000) (hi:i<a.length) (ae:0≤x) (af:x≤9) (hol:out.length=a.length+b.length+1) (U:D9 out):
 LoopOK Tryz.prog Zao 0 ⟨95,0,80⟩ (Za4 Tryz.f95 7) (ZAk a b i x (0,out)) [.row (.i .i64) out true]
 (fun e tm hp=>e= .exit 2∧ ∃ (o:List Int) (X:SV),(o.length=a.length+b.length+1∧N90 o∧dv o=dv out+10^i*(x*(dec b:Int)))∧tm=(28,X)::ZAk a b i x (b.length,o)∧hp=[.row (.i .i64) o true]):=by
 refine Zaw Zag rfl (ZAk a b i x) (fun t=> [.row (.i .i64) t.2 true])
  (fun t=>t.1≤b.length∧t.2.length=a.length+b.length+1∧N90 t.2∧t.2.drop (i+t.1)=out.drop (i+t.1)∧dv t.2=dv out+10^i*(x*((dec b % 10^t.1:Nat):Int))) (fun t=>b.length-t.1) ?_ (0,out) ?_ ZaJ
 ·rintro⟨k,o⟩ ⟨hk,hl,I,C,j⟩
  simp only at hk hl I C j
  refine Xaa (fun h=> ?_) (fun h=> ?_)
  ·have ag:k<b.length:=by have h':(k:Int)<(b.length:Int):=of_decide_eq_true h;omega
   have hj:i+k<o.length:=by omega
   have aa:i+k<out.length:=by omega
   have he:o[i+k]=out[i+k]:=by
    have:(o.drop (i+k))[0]? =(out.drop (i+k))[0]? :=by rw[C]
    rw[Xbv,Xbv,Nat.add_zero,Xac hj,Xac aa]at this
    exact XbF this
   have ab:=U _ (Xax aa)
   rw[←he]at ab
   obtain⟨z,ez⟩: ∃z,o[i+k]=z:=⟨_,rfl⟩
   rw[ez]at ab
   have J:IntKind.i64.wrap ((i:Int)+(k:Int))=((i+k:Nat):Int):=Zan (by omega) (by omega)
   have bi:(0:Int)≤IntKind.i64.wrap ((i:Int)+(k:Int))∧IntKind.i64.wrap ((i:Int)+(k:Int))<((a.length+b.length+1:Nat):Int):=by rw[J];omega
   have gz:o[0+(IntKind.i64.wrap ((i:Int)+(k:Int))).toNat]? =some z:=by rw[J,Xaq,Xad,Xac hj,ez]
   refine Xaa bi ?_
   refine Exists.intro z (Xaa gz ?_)
   refine(ZdQ b k R (by omega) (by omega)).mono ?_
   rintro _ rfl
   obtain⟨y,ey⟩: ∃d:Nat,dec b/10^k % 10=d:=⟨_,rfl⟩
   have ad:=ZcB (dec b) k
   rw[ey]at ad
   rw[ey]
   have hy:y<10:=by rw[←ey];exact Nat.mod_lt _ (by decide)
   have p0:0≤x*(y:Int):=Xbw ae (by omega)
   have p1:x*(y:Int)≤9*9:=Int.mul_le_mul af (by omega) (by omega) (by decide)
   have ev:IntKind.i64.wrap (z+IntKind.i64.wrap (x*(y:Int)))=z+x*y:=by rw[Zan (x:=x*(y:Int)) (by omega) (by omega),Zan (by omega) (by omega)]
   refine Xaa bi ?_
   refine Exists.intro z (Xaa gz ?_)
   have er:o.set (i+k) (z+x*y)=o.set (0+(IntKind.i64.wrap ((i:Int)+(k:Int))).toNat) (IntKind.i64.wrap (z+IntKind.i64.wrap (x*(y:Int)))):=by rw[ev,J,Xaq,Xad]
   have wi:IntKind.i64.wrap ((k:Int)+1)=((k+1:Nat):Int):=Zan (by omega) (by omega)
   refine⟨(k+1,o.set (i+k) (z+x*y)),⟨ag,by show(o.set _ _).length=_;rw[XaN];exact hl, ?_, ?_, ?_⟩,by show b.length-(k+1)<b.length-k;omega, ?_⟩
   ·intro d C
    rcases Xbk C with C|rfl
    ·exact I d C
    ·omega
   ·show(o.set _ _).drop (i+(k+1))=_
    rw[Xbr (by omega),←Xbt,←Xa9,C,Xa9]
   ·show dv (o.set (i+k) (z+x*y))=dv out+10^i*(x*((dec b % 10^(k+1):Nat):Int))
    rw[Zpl hj,ez,j,ad,Xa7,XaX,Xbs,Int.pow_add]
    have ah:((10:Nat):Int)=10:=rfl
    rw[ah]
    generalize(10:Int)^i=p
    generalize(10:Int)^k=q
    grind
   ·refine Zas rfl rfl ?_ ?_
    ·exact⟨rfl,rfl,⟨rfl,rfl,rfl⟩,rfl,rfl,rfl,rfl,rfl,wi.symm,trivial⟩
    ·exact⟨⟨er,fun _=>rfl⟩,trivial⟩
  ·have he:k=b.length:=by have h': ¬ (k:Int)<(b.length:Int):=of_decide_eq_false h;omega
   subst he
   rw[Xbc (ZbI R)]at j
   exact⟨rfl,o,_,⟨hl,I,j⟩,rfl,rfl⟩
 ·exact⟨Xao _,hol,fun d C=>by have:=U d C;omega,rfl,by simp[Nat.mod_one]⟩
def ZAY (a b:List UInt8) (i:Nat) (t:Nat×List Int):TM:=[(0, .v .s a),(1, .v .s b),(5, .ref 0 0 (a.length+b.length+1) none),(18, .v (.i .i64) (a.length:Int)),(19, .v (.i .i64) (i:Int)),(49, .v (.i .i64) ((a.length+b.length:Nat):Int)),(50, .v (.i .i64) (t.1:Int))]
theorem ZvF (a b:List UInt8) (i:Nat) (out:List Int) (ao:a.length≤300000) (aq:b.length≤300000) (hol:out.length=a.length+b.length+1) (ab:N90 out) (hW:dv out<10^(a.length+b.length)):
 LoopOK Tryz.prog Zao 0 ⟨95,0,80⟩ (Za4 Tryz.f95 12) (ZAY a b i (0,out)) [.row (.i .i64) out true]
 (fun e tm hp=>e= .exit 4∧ ∃ (o:List Int) (X:SV),(o.length=a.length+b.length+1∧D9 o∧dv o=dv out)∧tm=(51,X)::ZAY a b i (a.length+b.length,o)∧hp=[.row (.i .i64) o true]):=by
 obtain⟨L,hL⟩: ∃L,a.length+b.length=L:=⟨_,rfl⟩
 have ar:L≤600000:=by omega
 refine Zaw Zag rfl (ZAY a b i) (fun t=> [.row (.i .i64) t.2 true])
  (fun t=>t.1≤L∧t.2.length=L+1∧D9 (t.2.take t.1)∧(∃x r,t.2.drop t.1=x::r∧0≤x∧x≤100∧N90 r)∧dv t.2=dv out) (fun t=>L-t.1) ?_ (0,out) ?_ ZaJ
 ·rintro⟨k,o⟩ ⟨hk,hl,h9,⟨x,r,R,ad,au,hr⟩,j⟩
  simp only at hk hl h9 R j
  have C:k<o.length:=by omega
  have aa:=Xaz C
  rw[R]at aa
  have ex:o[k]=x:=(List.cons.inj aa).1.symm
  have er:o.drop (k+1)=r:=(List.cons.inj aa).2.symm
  refine Xaa (fun h=> ?_) (fun h=> ?_)
  ·have ae:k<L:=by have h':(k:Int)<((a.length+b.length:Nat):Int):=of_decide_eq_true h;omega
   have I:k+1<o.length:=by omega
   obtain⟨y,r',U⟩: ∃y r',r=y::r':=⟨_,_,(er.symm.trans (Xaz I))⟩
   have J:=Xaz I
   rw[er,U]at J
   have ey:o[k+1]=y:=(List.cons.inj J).1.symm
   have ak:o.drop (k+1+1)=r':=(List.cons.inj J).2.symm
   have hy:=hr y (by rw[U];exact Xah)
   have af:N90 r':=fun d hd=>hr d (by rw[U];exact Xai _ hd)
   have bk:(0:Int)≤(k:Int)∧(k:Int)<((a.length+b.length+1:Nat):Int):=by omega
   have ek:IntKind.i64.wrap ((k:Int)+1)=((k+1:Nat):Int):=Zan (by omega) (by omega)
   have ag:(0:Int)≤IntKind.i64.wrap ((k:Int)+1)∧IntKind.i64.wrap ((k:Int)+1)<((a.length+b.length+1:Nat):Int):=by rw[ek];omega
   have gx: ∀w:List Int,w[k]? =some x→w[0+(k:Int).toNat]? =some x:=fun w hw=>by rw[Xaq,Xad];exact hw
   have gy: ∀w:List Int,w[k+1]? =some y→w[0+(IntKind.i64.wrap ((k:Int)+1)).toNat]? =some y:=fun w hw=>by rw[ek,Xaq,Xad];exact hw
   have qx:o[k]? =some x:=by rw[Xac C,ex]
   have qy:o[k+1]? =some y:=by rw[Xac I,ey]
   refine Xaa bk ?_
   refine Exists.intro x (Xaa (gx o qx) ?_)
   refine Xaa (fun h2=> ?_) (fun h2=> ?_)
   ·have al:(9:Int)<x:=of_decide_eq_true h2
    have e1:IntKind.i64.wrap (y+IntKind.i64.wrap (x.tdiv 10))=y+x/10:=by rw[Int.tdiv_eq_ediv_of_nonneg ad,Zan (x:=x/10) (by omega) (by omega),Zan (by omega) (by omega)]
    have e2:x.tmod 10=x % 10:=XbE ad
    refine Xaa ag ?_
    refine Exists.intro y (Xaa (gy o qy) ?_)
    refine Xaa bk ?_
    refine Exists.intro x (Xaa (gx o qx) ?_)
    refine Xaa (by decide) ?_
    refine Xaa ag ?_
    refine Exists.intro y (Xaa (gy o qy) ?_)
    have ah:o.set (0+(IntKind.i64.wrap ((k:Int)+1)).toNat) (IntKind.i64.wrap (y+IntKind.i64.wrap (x.tdiv 10)))=o.set (k+1) (y+x/10):=by rw[e1,ek,Xaq,Xad]
    have ai:(o.set (0+(IntKind.i64.wrap ((k:Int)+1)).toNat) (IntKind.i64.wrap (y+IntKind.i64.wrap (x.tdiv 10))))[k]? =some x:=by rw[ah,XaD (by omega)];exact qx
    refine Xaa bk ?_
    refine Exists.intro x (Xaa (gx _ ai) ?_)
    refine Xaa (by decide) ?_
    refine Xaa bk ?_
    refine Exists.intro x (Xaa (gx _ ai) ?_)
    have eo:(o.set (k+1) (y+x/10)).set k (x % 10)=(o.set (0+(IntKind.i64.wrap ((k:Int)+1)).toNat) (IntKind.i64.wrap (y+IntKind.i64.wrap (x.tdiv 10)))).set (0+(k:Int).toNat) (x.tmod 10):=by rw[ah,e2,Xaq,Xad]
    have aj:k<(o.set (k+1) (y+x/10)).length:=by rw[XaN];exact C
    refine⟨(k+1,(o.set (k+1) (y+x/10)).set k (x % 10)),⟨ae,by show((o.set _ _).set _ _).length=_;rw[XaN,XaN];exact hl, ?_,⟨y+x/10,r', ?_,by omega,by omega,af⟩, ?_⟩,by show L-(k+1)<L-k;omega, ?_⟩
    ·show D9 (((o.set (k+1) (y+x/10)).set k (x % 10)).take (k+1))
     intro d hd
     rw[XaQ (by rw[XaN];exact aj),XbA (Xan _),XbA (by omega),List.getElem_set_self]at hd
     rcases XaA.1 hd with hd|hd
     ·exact h9 d hd
     ·rw[Xat.1 hd];omega
    ·show((o.set (k+1) (y+x/10)).set k (x % 10)).drop (k+1)=_
     rw[Xbr (by omega),Xaz (by rw[XaN];exact I),List.getElem_set_self,Xbr (by omega),ak]
    ·show dv ((o.set (k+1) (y+x/10)).set k (x % 10))=dv out
     rw[Zpl aj,Zpl I,ey,List.getElem_set_ne (by omega),ex,←j,Xba]
     have e3:=XaS x 10
     generalize(10:Int)^k=p
     have e4:x % 10=x-10*(x/10):=by omega
     rw[e4]
     grind
    ·refine Zas rfl rfl ?_ ?_
     ·exact⟨rfl,rfl,⟨rfl,rfl,rfl⟩,rfl,rfl,rfl,ek.symm,trivial⟩
     ·exact⟨⟨eo,fun _=>rfl⟩,trivial⟩
   ·have al: ¬ (9:Int)<x:=of_decide_eq_false h2
    refine⟨(k+1,o),⟨ae,hl, ?_,⟨y,r', ?_,by omega,by omega,af⟩,j⟩,by show L-(k+1)<L-k;omega, ?_⟩
    ·show D9 (o.take (k+1))
     intro d hd
     rw[XaQ C,ex]at hd
     rcases XaA.1 hd with hd|hd
     ·exact h9 d hd
     ·rw[Xat.1 hd];omega
    ·show o.drop (k+1)=_
     rw[er,U]
    ·refine Zas rfl rfl ?_ ?_
     ·exact⟨rfl,rfl,⟨rfl,rfl,rfl⟩,rfl,rfl,rfl,ek.symm,trivial⟩
     ·exact⟨⟨rfl,fun _=>rfl⟩,trivial⟩
  ·have he:k=L:=by have h': ¬ (k:Int)<((a.length+b.length:Nat):Int):=of_decide_eq_false h;omega
   subst he
   have h1:=ZwU C
   rw[Xay (by omega),ex]at h1
   have h2:=ZmK (l:=o.take k) fun d hd=>(h9 d hd).1
   have hx:x=0:=by
    rcases Int.lt_or_le x 1 with h|h
    ·omega
    ·have h3:=Xbe h (Xa6 (show(0:Int)<10^k from XbB (by decide)))
     rw[hL]at hW
     omega
   refine⟨rfl,o, .v .b (decide ((k:Int)<((a.length+b.length:Nat):Int))),⟨by omega, ?_,j⟩, ?_,rfl⟩
   ·intro d hd
    rw[←XaR k o,R]at hd
    rcases XaA.1 hd with hd|hd
    ·exact h9 d hd
    ·have an:r=[]:=by
      have:(o.drop k).length=1:=by rw[XaZ];omega
      rw[R]at this
      exact XaY.1 (by simpa using this)
     rw[an,Xat]at hd
     omega
   ·rw[←hL]
 ·refine⟨Xao _,by show out.length=L+1;omega,fun d hd=>by simp at hd, ?_,rfl⟩
  cases out with
  |nil=>simp at hol
  |cons x r=>
   have h1:=ab x Xah
   exact⟨x,r,rfl,h1.1,by omega,fun d hd=>ab d (Xai _ hd)⟩
def ZA7 (a b:List UInt8) (t:Nat×List Int):TM:=[(0, .v .s a),(1, .v .s b),(5, .ref 0 0 (a.length+b.length+1) none),(18, .v (.i .i64) (a.length:Int)),(19, .v (.i .i64) (t.1:Int))]
theorem ZuQ (a b:List UInt8) (C:Dg a) (I:Dg b) (J:a.length≤300000) (R:b.length≤300000):PureOK Tryz.prog Zao 95 [.v .s a, .v .s b] (fun V=>V= .v .s (decDigits (dec a*dec b))):=by
 refine Zai Zag Tryz.func95 ?_
 have w1:IntKind.i64.wrap (IntKind.i64.wrap ((a.length:Int)+(b.length:Int))+1)=((a.length+b.length+1:Nat):Int):=by rw[Zan (x:=(a.length:Int)+(b.length:Int)) (by omega) (by omega),Zan (by omega) (by omega)];omega
 have w2: ∀x:Int,x=((a.length+b.length+1:Nat):Int)→0≤x∧x≤x∧(8:Int)*x≤281474976710656∧x<9223372036854775808:=fun x hx=>by omega
 have w3:a.length+b.length+1=(IntKind.i64.wrap (IntKind.i64.wrap ((a.length:Int)+(b.length:Int))+1)).toNat:=by rw[w1];omega
 refine Xaa (w2 _ w1) ?_
 refine Zaw Zag rfl (ZA7 a b) (fun t=> [.row (.i .i64) t.2 true])
  (fun t=>t.1≤a.length∧t.2.length=a.length+b.length+1∧D9 t.2∧dv t.2=((dec a % 10^t.1*dec b:Nat):Int)) (fun t=>a.length-t.1) ?_ (0,List.replicate (a.length+b.length+1) 0) ?_ ?_
 ·rintro⟨i,out⟩ ⟨hi,hl,h9,j⟩
  simp only at hi hl h9 j
  refine Xaa (fun h=> ?_) (fun h=> ?_)
  ·have U:i<a.length:=by have h':(i:Int)<(a.length:Int):=of_decide_eq_true h;omega
   refine(ZdQ a i C (by omega) (by omega)).mono ?_
   rintro _ rfl
   obtain⟨x,ex⟩: ∃d:Nat,dec a/10^i % 10=d:=⟨_,rfl⟩
   have aa:=ZcB (dec a) i
   rw[ex]at aa
   rw[ex]
   have hx:x<10:=by rw[←ex];exact Nat.mod_lt _ (by decide)
   refine((Zvx a b i (x:Int) out I J R U (by omega) (by omega) hl h9).ent ?_).mono ?_
   ·refine Zas rfl rfl ?_ ?_
    ·exact⟨rfl,rfl,⟨rfl,rfl,rfl⟩,rfl,rfl,rfl,rfl,rfl,rfl,trivial⟩
    ·exact⟨⟨rfl,fun _=>rfl⟩,trivial⟩
   rintro _ _ _ ⟨rfl,o1,X1,⟨l1,n1,v1⟩,rfl,rfl⟩
   have ab:dv o1=((dec a % 10^(i+1)*dec b:Nat):Int):=by
    rw[v1,j,aa,Xa4,Xa7,XaX,XaX,XaX,Xbs]
    have ae:((10:Nat):Int)=10:=rfl
    rw[ae,Xbx]
   have hW:dv o1<10^(a.length+b.length):=by
    have h1:dec a % 10^(i+1)<10^a.length:=XaJ (Nat.mod_lt _ (Nat.pow_pos (by decide))) (XaW (by decide) (by omega))
    have h2:=Nat.mul_lt_mul'' h1 (ZbI I)
    rw[←Nat.pow_add]at h2
    have h3:=Int.ofNat_lt.2 h2
    rw[Xbs]at h3
    rw[ab]
    exact h3
   have ad:IntKind.i64.wrap (((a.length+b.length+1:Nat):Int)-1)=((a.length+b.length:Nat):Int):=by rw[Zan (by omega) (by omega)];omega
   have bs:(0:Int)≤IntKind.i64.wrap (((a.length+b.length+1:Nat):Int)-1)∧IntKind.i64.wrap (((a.length+b.length+1:Nat):Int)-1)≤((a.length+b.length+1:Nat):Int):=by rw[ad];omega
   refine Xaa bs ?_
   have af:((a.length+b.length:Nat):Int)=(((IntKind.i64.wrap (((a.length+b.length+1:Nat):Int)-1)).toNat-0:Nat):Int):=by rw[ad,Xad];omega
   refine((ZvF a b i o1 J R l1 n1 hW).ent ?_).mono ?_
   ·refine Zas rfl rfl ?_ ?_
    ·exact⟨rfl,rfl,⟨rfl,rfl,rfl⟩,rfl,rfl,af,rfl,trivial⟩
    ·exact⟨⟨rfl,fun _=>rfl⟩,trivial⟩
   rintro _ _ _ ⟨rfl,o2,X2,⟨l2,n2,v2⟩,rfl,rfl⟩
   have wi:IntKind.i64.wrap ((i:Int)+1)=((i+1:Nat):Int):=Zan (by omega) (by omega)
   refine⟨(i+1,o2),⟨U,l2,n2,by show dv o2=_;rw[v2,ab]⟩,by show a.length-(i+1)<a.length-i;omega, ?_⟩
   refine Zas rfl rfl ?_ ?_
   ·exact⟨rfl,rfl,⟨rfl,rfl,rfl⟩,rfl,wi.symm,trivial⟩
   ·exact⟨⟨rfl,fun _=>rfl⟩,trivial⟩
  ·have he:i=a.length:=by have h': ¬ (i:Int)<(a.length:Int):=of_decide_eq_false h;omega
   subst he
   rw[Xbc (ZbI C)]at j
   refine Xaa (by show 0+(a.length+b.length+1)≤out.length;omega) ?_
   have hs:sub out 0 (a.length+b.length+1)=out:=by rw[sub,XaB,Xay (by omega)]
   have hr:=ZnY out h9 (by omega)
   rw[←hs]at hr
   refine hr.mono ?_
   rintro _ rfl
   rw[hs,j,Xad]
   rfl
 ·refine⟨Xao _,by simp,fun d hd=> ?_, ?_⟩
  ·have:=List.eq_of_mem_replicate hd
   rw[this];decide
  ·have: ∀k,dv (List.replicate k 0)=0:=by
    intro k
    induction k with
    |zero=>rfl
    |succ k ih=>rw[List.replicate_succ,dv,ih];rfl
   show dv (List.replicate _ 0)=_
   rw[this]
   simp[Nat.mod_one]
 ·refine Zas rfl rfl ?_ ?_
  ·exact⟨rfl,rfl,⟨rfl,w3,w3⟩,rfl,rfl,trivial⟩
  ·exact⟨⟨(by show List.replicate (a.length+b.length+1) (0:Int)=List.replicate _ 0;rw[←w3]),fun _=>rfl⟩,trivial⟩
def dl (n:Nat):Nat:=(decDigits n).length
theorem Zr5 (n:Nat):1≤dl n:=List.length_pos_iff.2 (ZeL n)
theorem Zt2 (n:Nat):n<10^dl n:=(Zbt (Zr5 n)).1 (Xan _)
theorem Zr9 {n k:Nat} (j:1≤k) (h:n<10^k):dl n≤k:=(Zbt j).2 h
theorem ZjY (m n:Nat):dl (m*n)≤dl m+dl n:=by
 refine Zr9 (by have:=Zr5 m;omega) ?_
 rw[Nat.pow_add]
 exact Nat.mul_lt_mul'' (Zt2 m) (Zt2 n)
theorem Zv6 (m n:Nat):dl (m+n)≤max (dl m) (dl n)+1:=by
 refine Zr9 (by omega) ?_
 rw[Nat.pow_succ]
 have j:=XaJ (Zt2 m) (XaW (n:=10) (by decide) (Nat.le_max_left (dl m) (dl n)))
 have C:=XaJ (Zt2 n) (XaW (n:=10) (by decide) (Nat.le_max_right (dl m) (dl n)))
 omega
theorem ZeO {m n:Nat} (h:m≤n):dl m≤dl n:=Zr9 (Zr5 n) (Nat.lt_of_le_of_lt h (Zt2 n))
def dz (q:Rat) (k:Nat):Prop:=dl q.num.natAbs≤k∧dl q.den≤k
theorem ZvA {n:Int} {d k:Nat} (R:0<d) (j:dl n.natAbs≤k) (C:dl d≤k):dz (Rat.divInt n d) k:=by
 obtain⟨I,U⟩:=ZiF (n:=n) (d:=(d:Int)) (by omega)
 constructor
 ·rw[I]
  exact XaM (ZeO (Int.natAbs_ediv_le_natAbs _ _)) j
 ·have J:(Rat.divInt n d).den≤d:=by
   have:=Int.ediv_le_self (a:=(d:Int)) (Int.gcd n d:Int) (by omega)
   omega
  exact XaM (ZeO J) C
theorem Zzv {p q:Rat} {k m:Nat} (hp:dz p k) (j:dz q m):dz (p+q) (k+m+1):=by
 rw[←Zpq,←XaX]
 obtain⟨C,I⟩:=hp
 obtain⟨J,R⟩:=j
 have U:=ZjY p.num.natAbs q.den
 have h2:=ZjY q.num.natAbs p.den
 have h3:=ZjY p.den q.den
 have h4:=Zv6 (p.num.natAbs*q.den) (q.num.natAbs*p.den)
 refine ZvA (Nat.mul_pos p.den_pos q.den_pos) ?_ (by omega)
 refine XaM (ZeO (Int.natAbs_add_le _ _)) ?_
 rw[Int.natAbs_mul,Int.natAbs_mul,XaV,XaV]
 omega
theorem ZrJ {p:Rat} {k:Nat} (hp:dz p k):dz (-p) k:=by
 obtain⟨j,C⟩:=hp
 refine⟨?_,C⟩
 show dl (-p.num).natAbs≤k
 rw[Int.natAbs_neg]
 exact j
theorem ZyH {p:Rat} {k:Nat} (h:k≤2000) (hp:dz p k):Zkj p=true:=Zdw.2 ⟨XaM hp.1 h,XaM hp.2 h⟩
theorem Zox {p:Rat} (h:Zkj p=true):dz p 2000:=Zdw.1 h
theorem ZBF (c:UInt8):decide ((c.toNat:Int)=45)=(some c==some (45:UInt8)):=by
 rw[Xbh,decide_eq_true_eq,beq_iff_eq,Xaf]
 constructor
 ·intro h
  exact UInt8.toNat_inj.1 (by show c.toNat=45;omega)
 ·rintro rfl;rfl
theorem ZBH (c:UInt8):decide ((c.toNat:Int)=47)=Nat.beq c.toNat (47:UInt8).toNat:=by
 rw[Xbh,decide_eq_true_eq,Nat.beq_eq]
 show _↔c.toNat=47
 omega
theorem Zpd (m:Bool) {x y j C:List UInt8} (I:x=j) (J:y=C):SV.tup [.v .b m, .v .s x, .v .s y]=SV.tup [.v .b m, .v .s j, .v .s C]:=by rw[I,J]
theorem ZkC (q:Rat) {k:Nat} (hk:k≤1000000) (hz:dz q k):PureOK Tryz.prog Zao 78 [.v .s (Zc0 q)] (fun V=>V= .tup [.v .b (decide (q.num<0)), .v .s (decDigits q.num.natAbs), .v .s (decDigits q.den)]):=by
 refine Zai Zag Tryz.func78 ?_
 obtain⟨z1,z2⟩:=hz
 have U:=Ztc q
 have hN:=ZrK q
 have j:=Zor q.num.natAbs q.den
 have ab:(decDigits q.num.natAbs++Zcb q.den).length≤3000000:=by
  have h1:(decDigits q.num.natAbs).length≤k:=z1
  have h2:(decDigits q.den).length≤k:=z2
  have h3:(Zcb q.den).length≤k+1:=by
   unfold Zcb
   cases decide (q.den=1)with
   |true=>simp
   |false=>simp only[Xap];omega
  rw[Xaw]
  omega
 obtain⟨S,eS⟩: ∃S,decDigits q.num.natAbs++Zcb q.den=S:=⟨_,rfl⟩
 rw[eS]at U j ab
 obtain⟨a,ea⟩: ∃a,Zc0 q=a:=⟨_,rfl⟩
 rw[ea]at U hN⊢
 have aa:a≠ []:=by
  rintro rfl
  have h0:=Ziw q.num.natAbs q.den
  rw[eS,←U]at h0
  have h1:ZgC []=[]:=rfl
  have:decDigits q.num.natAbs++Zcb q.den=[]:=by rw[eS,←U,h1]
  exact ZeL _ (List.append_eq_nil_iff.1 this).1
 obtain⟨c,l,I⟩: ∃c l,a=c::l:=List.exists_cons_of_ne_nil aa
 have ad:a[(0:Int).toNat]? =some c:=by rw[I];rfl
 have C:decide ((c.toNat:Int)=45)=decide (q.num<0):=by
  rw[ZBF,←hN,I]
  rfl
 obtain⟨m,hm⟩: ∃m,decide (q.num<0)=m:=⟨_,rfl⟩
 rw[hm]at C hN⊢
 refine⟨c,XaT 0,ad, ?_⟩
 refine Xaa (fun h=> ?_) (fun h=> ?_)
 have h':m=true:=C.symm.trans h
 refine Xaa (show 0≤(1:Int)∧(1:Int)≤(a.length:Int)from⟨by decide,by rw[I];simp only[Xap];omega⟩) ?_
 have eA:(a.take a.length).drop (1:Int).toNat=S:=by
  rw[XaC,←U,ZgC,hN,h']
  rfl
 rotate_left 1
 have h':m=false:=C.symm.trans h
 have eA:a=S:=by
  rw[←U,ZgC,hN,h']
 all_goals
  refine Zaw Zag rfl (fun(i:Nat)=> [(5, .v .s S),(6, .v .b m),(16, .v (.i .i64) (S.length:Int)),(17, .v (.i .i64) (i:Int))]) (fun _=> [])
   (fun i=>i≤S.length∧ZbV (S.drop i) 47 i=ZbV S 47 0) (fun i=>S.length-i) ?_ 0 ?_ ?_
  ·rintro i ⟨hi,he⟩
   refine Xaa (fun h=> ?_) (fun h=> ?_)
   ·have J:i<S.length:=by have h':(i:Int)<(S.length:Int):=of_decide_eq_true h;omega
    obtain⟨x,hx⟩: ∃x,S[i]=x:=⟨_,rfl⟩
    have gx:S[(i:Int).toNat]? =some x:=by rw[Xad,Xac J,hx]
    rw[Xaz J,hx,ZbV,←ZBH]at he
    refine⟨x,Xaj i,gx, ?_⟩
    have wi:IntKind.i64.wrap ((i:Int)+1)=((i+1:Nat):Int):=Zan (by omega) (by omega)
    refine Xaa (fun h2=> ?_) (fun h2=> ?_)
    ·have R:decide ((x.toNat:Int)=47)=true:=h2
     rw[R]at he
     simp only at he
     have hC:=Zg7 he.symm
     rw[hC]at j
     refine Xaa (show 0≤(i:Int)∧(i:Int)≤(S.length:Int)by omega) ?_
     refine Xaa (show 0≤IntKind.i64.wrap ((i:Int)+1)∧IntKind.i64.wrap ((i:Int)+1)≤(S.length:Int)by rw[wi];omega) ?_
     cases hd:decide (q.den=1)with
     |true=>rw[hd]at j;simp at j
     |false=>
      rw[hd]at j
      simp only[Prod.mk.injEq]at j
      have e1:List.drop 0 (S.take (i:Int).toNat)=decDigits q.num.natAbs:=j.1
      have e2:List.drop (IntKind.i64.wrap ((i:Int)+1)).toNat (S.take S.length)=decDigits q.den:=by
       rw[wi,Xad,XaC]
       exact j.2.1
      exact Zpd m e1 e2
    ·have R:decide ((x.toNat:Int)=47)=false:=h2
     rw[R]at he
     refine⟨i+1,⟨J,he⟩,by show S.length-(i+1)<S.length-i;omega, ?_⟩
     refine Zas rfl rfl ?_ ?_
     ·exact⟨rfl,rfl,rfl,wi.symm,trivial⟩
     ·exact trivial
   ·have ae:i=S.length:=by have h': ¬ (i:Int)<(S.length:Int):=of_decide_eq_false h;omega
    rw[XbJ (by omega)]at he
    have hC:=Zgu (s:=S) he.symm
    rw[hC]at j
    cases hd:decide (q.den=1)with
    |false=>rw[hd]at j;simp at j
    |true=>
     rw[hd]at j
     simp only[Prod.mk.injEq]at j
     have e1:S=decDigits q.num.natAbs:=j.1
     have e2:[49]=decDigits q.den:=by
      rw[of_decide_eq_true hd,decDigits_one (by decide)]
      rfl
     exact Zpd m e1 e2
  ·exact⟨Xao _,rfl⟩
  ·refine Zas rfl rfl ?_ ?_
   ·exact⟨eA.symm,C.symm,by rw[←eA];rfl,rfl,trivial⟩
   ·exact trivial
theorem Ztv {n d:Nat} (m:Bool) (U:n≠0) (hd:0<d):Zc0 (Rat.divInt (sg m (n:Int)) (d:Int))=mns m (decDigits (n/Nat.gcd n d)++Zcb (d/Nat.gcd n d)):=by
 obtain⟨j,R⟩:=ZiF (n:=sg m (n:Int)) (d:=(d:Int)) (by omega)
 have hg:(Int.gcd (sg m (n:Int)) (d:Int))=Nat.gcd n d:=by
  unfold Int.gcd
  rw[Ztr,XaV,XaV]
 rw[hg]at j R
 have C:0<Nat.gcd n d:=Nat.gcd_pos_of_pos_right _ hd
 obtain⟨k,I⟩:=Nat.gcd_dvd_left n d
 have J:n/Nat.gcd n d=k:=Nat.div_eq_of_eq_mul_right C I
 have aa:k≠0:=by rintro rfl;exact U (by rw[I,Nat.mul_zero])
 have e3:sg m (n:Int)/(Nat.gcd n d:Int)=sg m (k:Int):=by
  have hc:(n:Int)=(Nat.gcd n d:Int)*(k:Int):=by rw[←XaX,←I]
  rw[hc]
  cases m with
  |true=>
   simp only[sg]
   rw[←Int.mul_neg,Int.mul_ediv_cancel_left _ (by omega)]
  |false=>
   simp only[sg]
   rw[Int.mul_ediv_cancel_left _ (by omega)]
 rw[e3]at j
 have e4:(Rat.divInt (sg m (n:Int)) (d:Int)).den=d/Nat.gcd n d:=by
  rw[←Int.natCast_ediv]at R
  omega
 rw[Zc0,j,e4,J,Ztr,XaV]
 have e5:decide (sg m (k:Int)<0)=m:=by
  cases m with
  |true=>exact decide_eq_true (by simp only[sg];omega)
  |false=>exact decide_eq_false (by simp only[sg];omega)
 rw[e5]
theorem Zlw (m:Bool) (n d:Nat) (hd:0<d) (J:dl n≤90000) (I:dl d≤90000):PureOK Tryz.prog Zao 79 [.v .b m, .v .s (decDigits n), .v .s (decDigits d)] (fun V=>V= .v .s (Zc0 (Rat.divInt (sg m (n:Int)) (d:Int)))):=by
 refine Zai Zag Tryz.func79 ?_
 have hz:=Ziv n
 refine Xaa (fun h=> ?_) (fun h=> ?_)
 ·have U:(decDigits n==[48])=true:=h
  rw[hz]at U
  have h0:n=0:=of_decide_eq_true U
  subst h0
  have e:sg m ((0:Nat):Int)=0:=by cases m<;>rfl
  rw[e,Rat.zero_divInt,Zrn]
  rfl
 ·have U:(decDigits n==[48])=false:=h
  rw[hz]at U
  have hn:n≠0:=of_decide_eq_false U
  have aa:0<Nat.gcd n d:=Nat.gcd_pos_of_pos_right _ hd
  have hG:=Zoz (decDigits n) (decDigits d) (Zbi _) (Zbi _) J I
  rw[Zay,Zay]at hG
  have ae:dl (Nat.gcd n d)≤90000:=XaM (ZeO (Nat.gcd_le_right _ hd)) I
  have af:(decDigits (Nat.gcd n d)).length≤90000:=ae
  have ag:(decDigits n).length≤90000:=J
  have ah:(decDigits d).length≤90000:=I
  have hN:=Zli (decDigits n) (decDigits (Nat.gcd n d)) (ZaT _) (Zbi _) (by rw[Zay];exact aa) (by omega) (by omega)
  have hD:=Zli (decDigits d) (decDigits (Nat.gcd n d)) (ZaT _) (Zbi _) (by rw[Zay];exact aa) (by omega) (by omega)
  rw[Zay,Zay]at hN hD
  rw[Ztv m hn hd]
  have ab:dl (n/Nat.gcd n d)≤90000:=XaM (ZeO (Nat.div_le_self _ _)) J
  have ad:dl (d/Nat.gcd n d)≤90000:=XaM (ZeO (Nat.div_le_self _ _)) I
  have hc:=ZzB (Zbi (d/Nat.gcd n d))
  rw[Zay]at hc
  have j:Zcb (d/Nat.gcd n d)=match decide (d/Nat.gcd n d=1)with|true=> []|false=>47::decDigits (d/Nat.gcd n d):=rfl
  rw[←hc]at j
  unfold dl at ab ad
  refine hG.mono ?_
  rintro _ rfl
  refine hN.mono ?_
  rintro _ rfl
  refine hD.mono ?_
  rintro _ rfl
  obtain⟨N,eN⟩: ∃x,decDigits (n/Nat.gcd n d)=x:=⟨_,rfl⟩
  obtain⟨D,eD⟩: ∃x,decDigits (d/Nat.gcd n d)=x:=⟨_,rfl⟩
  rw[eN]at ab⊢
  rw[eD]at ad j⊢
  obtain⟨F,eF⟩: ∃x,Zcb (d/Nat.gcd n d)=x:=⟨_,rfl⟩
  rw[eF]at j⊢
  cases m with
  |true=>
   refine Xaa (fun _=> ?_) (fun h=>nomatch h)
   refine Xaa (by show 1+N.length≤9223372036854775807;omega) ?_
   refine Xaa (fun R=> ?_) (fun R=> ?_)
   ·have C:(D==[49])=true:=R
    rw[C]at j
    simp only at j
    rw[j,XaF]
    rfl
   ·have C:(D==[49])=false:=R
    rw[C]at j
    simp only at j
    refine Xaa (by show(45::N).length+1≤9223372036854775807;simp only[Xap];omega) ?_
    refine Xaa (by show((45::N)++ [47]).length+D.length≤9223372036854775807;simp only[Xaw,Xap,XbG];omega) ?_
    rw[j]
    show SV.v .s (((45::N)++ [47])++D)=SV.v .s (45::(N++47::D))
    simp
  |false=>
   refine Xaa (fun h=>nomatch h) (fun _=> ?_)
   refine Xaa (fun R=> ?_) (fun R=> ?_)
   ·have C:(D==[49])=true:=R
    rw[C]at j
    simp only at j
    rw[j,XaF]
    rfl
   ·have C:(D==[49])=false:=R
    rw[C]at j
    simp only at j
    refine Xaa (by show N.length+1≤9223372036854775807;omega) ?_
    refine Xaa (by show(N++ [47]).length+D.length≤9223372036854775807;simp only[Xaw,Xap,XbG];omega) ?_
    rw[j]
    show SV.v .s ((N++ [47])++D)=SV.v .s (N++47::D)
    simp
theorem Zij (m n:Nat) (hm:dl m≤300000) (j:dl n≤300000):PureOK Tryz.prog Zao 95 [.v .s (decDigits m), .v .s (decDigits n)] (fun V=>V= .v .s (decDigits (m*n))):=by
 have h:=ZuQ (decDigits m) (decDigits n) (ZaT _) (ZaT _) hm j
 rw[Zay,Zay]at h
 exact h
theorem Zth (m n:Nat) (hm:dl m≤900000) (j:dl n≤900000):PureOK Tryz.prog Zao 96 [.v .s (decDigits m), .v .s (decDigits n)] (fun V=>V= .v .s (decDigits (m+n))):=by
 have h:=ZuI (decDigits m) (decDigits n) (ZaT _) (ZaT _) hm j
 rw[Zay,Zay]at h
 exact h
theorem Zl6 (m n:Nat) (hm:dl m≤900000) (j:dl n≤900000) (h:n≤m):PureOK Tryz.prog Zao 98 [.v .s (decDigits m), .v .s (decDigits n)] (fun V=>V= .v .s (decDigits (m-n))):=by
 have h:=Zpc (decDigits m) (decDigits n) (ZaT _) (ZaT _) hm j (by rw[Zay,Zay];exact h)
 rw[Zay,Zay]at h
 exact h
theorem ZrX (m n:Nat) (hm:dl m≤900000) (j:dl n≤900000):PureOK Tryz.prog Zao 97 [.v .s (decDigits m), .v .s (decDigits n)] (fun V=>V= .v (.i .i64) ((m:Int)-(n:Int)).sign):=by
 have hm:(decDigits m).length≤900000:=hm
 have j:(decDigits n).length≤900000:=j
 have h:=ZpC (decDigits m) (decDigits n) (Zbi _) (Zbi _) (by omega) (by omega)
 rw[Zay,Zay]at h
 exact h
theorem Zuf (p q:Rat) {k:Nat} (hk:k≤40000) (hp:dz p k) (hq:dz q k):PureOK Tryz.prog Zao 80 [.v .s (Zc0 p), .v .s (Zc0 q)] (fun V=>V= .v .s (Zc0 (p+q))):=by
 have hP:=ZkC p (by omega) hp
 have hQ:=ZkC q (by omega) hq
 obtain⟨p1,p2⟩:=hp
 obtain⟨q1,q2⟩:=hq
 have l1:=ZjY p.num.natAbs q.den
 have l2:=ZjY q.num.natAbs p.den
 have l3:=ZjY p.den q.den
 have hz:=Nat.mul_pos p.den_pos q.den_pos
 have j:=Zpq p q
 have sp:=Zo7 p.num
 have sq:=Zo7 q.num
 obtain⟨m,hm⟩: ∃m,decide (p.num<0)=m:=⟨_,rfl⟩
 obtain⟨w,hw⟩: ∃w,decide (q.num<0)=w:=⟨_,rfl⟩
 rw[hm]at hP sp
 rw[hw]at hQ sq
 have hX:=Zij p.num.natAbs q.den (by omega) (by omega)
 have hY:=Zij q.num.natAbs p.den (by omega) (by omega)
 have hZ:=Zij p.den q.den (by omega) (by omega)
 rw[←XaX,←sp,←sq]at j
 obtain⟨X,eX⟩: ∃x,p.num.natAbs*q.den=x:=⟨_,rfl⟩
 obtain⟨Y,eY⟩: ∃x,q.num.natAbs*p.den=x:=⟨_,rfl⟩
 obtain⟨Z,eZ⟩: ∃x,p.den*q.den=x:=⟨_,rfl⟩
 have cX:(p.num.natAbs:Int)*(q.den:Int)=(X:Int):=by rw[←XaX,eX]
 have cY:(q.num.natAbs:Int)*(p.den:Int)=(Y:Int):=by rw[←XaX,eY]
 have sm: ∀ (b:Bool) (x y:Int),sg b x*y=sg b (x*y):=fun b x y=>by cases b<;>simp[sg,Int.neg_mul]
 rw[sm,sm,cX,cY]at j
 rw[eX]at hX l1
 rw[eY]at hY l2
 rw[eZ]at hZ l3 hz j
 have hS:=Zv6 X Y
 refine Zai Zag Tryz.func80 ?_
 refine hP.mono ?_
 rintro _ rfl
 refine hQ.mono ?_
 rintro _ rfl
 refine hX.mono ?_
 rintro _ rfl
 refine hY.mono ?_
 rintro _ rfl
 refine hZ.mono ?_
 rintro _ rfl
 refine Xaa (fun h=> ?_) (fun h=> ?_)
 ·have h':(m==w)=true:=h
  have C:m=w:=by simpa using h'
  subst C
  refine(Zth X Y (by omega) (by omega)).mono ?_
  rintro _ rfl
  have J:sg m (X:Int)+sg m (Y:Int)=sg m ((X+Y:Nat):Int):=by cases m<;>simp only[sg]<;>omega
  rw[J]at j
  have I:=Zlw m (X+Y) Z hz (by omega) (by omega)
  rw[j]at I
  refine I.mono ?_
  rintro _ rfl
  rfl
 ·have h':(m==w)=false:=h
  have C:m= !w:=by cases m<;>cases w<;>first|rfl|cases h'
  refine(ZrX X Y (by omega) (by omega)).mono ?_
  rintro _ rfl
  refine Xaa (fun h2=> ?_) (fun h2=> ?_)
  ·have R:((X:Int)-(Y:Int)).sign<0:=of_decide_eq_true h2
   have R:=Int.sign_neg_iff.1 R
   refine(Zl6 Y X (by omega) (by omega) (by omega)).mono ?_
   rintro _ rfl
   have J:sg m (X:Int)+sg w (Y:Int)=sg w ((Y-X:Nat):Int):=by rw[C];cases w<;>simp only[sg,Bool.not_true,XbC]<;>omega
   rw[J]at j
   have I:=Zlw w (Y-X) Z hz (XaM (ZeO (Nat.sub_le _ _)) (by omega)) (by omega)
   rw[j]at I
   refine I.mono ?_
   rintro _ rfl
   rfl
  ·have U: ¬ ((X:Int)-(Y:Int)).sign<0:=of_decide_eq_false h2
   have U: ¬ (X:Int)-(Y:Int)<0:=fun h=>U (Int.sign_neg_iff.2 h)
   refine(Zl6 X Y (by omega) (by omega) (by omega)).mono ?_
   rintro _ rfl
   have J:sg m (X:Int)+sg w (Y:Int)=sg m ((X-Y:Nat):Int):=by rw[C];cases w<;>simp only[sg,Bool.not_true,XbC]<;>omega
   rw[J]at j
   have I:=Zlw m (X-Y) Z hz (XaM (ZeO (Nat.sub_le _ _)) (by omega)) (by omega)
   rw[j]at I
   refine I.mono ?_
   rintro _ rfl
   rfl
theorem Zu6 (p:Rat):Rat.divInt (-p.num) (p.den:Int)= -p:=by
 rw[←Rat.neg_divInt,Rat.num_divInt_den]
theorem ZoO (p:Rat) {k:Nat} (R:k≤40000) (hp:dz p k):PureOK Tryz.prog Zao 58 [.v .s (Zc0 p)] (fun V=>V= .v .s (Zc0 (-p))):=by
 have j:=ZkC p (by omega) hp
 obtain⟨U,p2⟩:=hp
 have sp:=Zo7 p.num
 have C:=Zu6 p
 obtain⟨m,hm⟩: ∃m,decide (p.num<0)=m:=⟨_,rfl⟩
 rw[hm]at j sp
 have J: -p.num=sg (!m) (p.num.natAbs:Int):=by
  have: -p.num= -sg m (p.num.natAbs:Int):=by rw[sp]
  rw[this]
  cases m<;>simp[sg]
 rw[J]at C
 have I:=Zlw (!m) p.num.natAbs p.den p.den_pos (by omega) (by omega)
 rw[C]at I
 refine Zai Zag Tryz.func58 ?_
 refine j.mono ?_
 rintro _ rfl
 refine I.mono ?_
 rintro _ rfl
 rfl
theorem Zu7 (p q:Rat) {k:Nat} (j:k≤40000) (hp:dz p k) (C:dz q k):PureOK Tryz.prog Zao 59 [.v .s (Zc0 p), .v .s (Zc0 q)] (fun V=>V= .v .s (Zc0 (p-q))):=by
 have I:=Zuf p (-q) j hp (ZrJ C)
 rw[←Rat.sub_eq_add_neg]at I
 refine Zai Zag Tryz.func59 ?_
 refine(ZoO q j C).mono ?_
 rintro _ rfl
 refine I.mono ?_
 rintro _ rfl
 rfl
theorem Zmy (p:Rat) {k:Nat} (U:k≤1000000) (hp:dz p k):PureOK Tryz.prog Zao 57 [.v .s (Zc0 p)] (fun V=>V= .v (.i .i64) p.num.sign):=by
 have hP:=ZkC p U hp
 have I:=Ziv p.num.natAbs
 refine Zai Zag Tryz.func57 ?_
 refine hP.mono ?_
 rintro _ rfl
 refine Xaa (fun h=> ?_) (fun h=> ?_)
 ·have j:(decDigits p.num.natAbs==[48])=true:=h
  rw[I]at j
  have J:p.num=0:=by have:=of_decide_eq_true j;omega
  rw[J]
  rfl
 ·have j:(decDigits p.num.natAbs==[48])=false:=h
  rw[I]at j
  have J:=of_decide_eq_false j
  refine Xaa (fun C=> ?_) (fun C=> ?_)
  ·have R:p.num<0:=of_decide_eq_true C
   rw[Int.sign_eq_neg_one_of_neg R]
   rfl
  ·have R: ¬p.num<0:=of_decide_eq_false C
   rw[Int.sign_eq_one_of_pos (by omega)]
   rfl
theorem ZuD (p q:Rat) {k:Nat} (C:k≤40000) (hp:dz p k) (j:dz q k):PureOK Tryz.prog Zao 31 [.v .s (Zc0 p), .v .s (Zc0 q)] (fun V=>V= .v (.i .i64) (Zqk p q)):=by
 have I:dz (p-q) (k+k+1):=by
  rw[Rat.sub_eq_add_neg]
  exact Zzv hp (ZrJ j)
 refine Zai Zag Tryz.func31 ?_
 refine(Zu7 p q C hp j).mono ?_
 rintro _ rfl
 refine(Zmy (p-q) (by omega) I).mono ?_
 rintro _ rfl
 rw[ZoG]
 rfl
def ZzP:List UInt8:=[48,49,50,51,52,53,54,55,56,57]
theorem ZuB: ∀d:Fin 10,(ZzP.take (d.val+1)).drop d.val=[UInt8.ofNat (48+d.val)]:=by decide+kernel
theorem Zw0 {d:Nat} (h:d<10):(ZzP.take (d+1)).drop d=[UInt8.ofNat (48+d)]:=ZuB ⟨d,h⟩
theorem Zn5 {m:Nat} (h:m≠0):decDigits m=(match decide (m/10=0)with|true=> []|false=>decDigits (m/10))++ [UInt8.ofNat (48+m % 10)]:=by
 by_cases hm:10≤m
 ·rw[decDigits.eq_1 m,dif_neg (by omega),decide_eq_false (by omega)]
 ·rw[decDigits_one (by omega),decide_eq_true (by omega),Xbc (by omega)]
  rfl
def ZtA (m:Nat) (s:List UInt8):List UInt8:=match s with
 | []=>decDigits m
 |_=>(match decide (m=0)with|true=> []|false=>decDigits m)++s
theorem ZqV {m:Nat} {s:List UInt8} (h:0<m∨s=[]):ZtA (m/10) (UInt8.ofNat (48+m % 10)::s)=ZtA m s:=by
 by_cases hm:m=0
 ·subst hm
  have C:s=[]:=by rcases h with h|h<;>first|omega|exact h
  subst C
  show(match decide (0/10=0)with|true=> []|false=>decDigits (0/10))++ [UInt8.ofNat (48+0 % 10)]=decDigits 0
  rw[decDigits_one (by decide)]
  rfl
 ·have j:=Zn5 hm
  cases s with
  |nil=>
   show(match decide (m/10=0)with|true=> []|false=>decDigits (m/10))++ [UInt8.ofNat (48+m % 10)]=decDigits m
   exact j.symm
  |cons c l=>
   show(match decide (m/10=0)with|true=> []|false=>decDigits (m/10))++(UInt8.ofNat (48+m % 10)::c::l)=(match decide (m=0)with|true=> []|false=>decDigits m)++(c::l)
   rw[decide_eq_false hm]
   simp only
   rw[j,Xbn]
   rfl
theorem ZsN (m:Nat) (s:List UInt8):s.length≤(ZtA m s).length:=by
 cases s with
 |nil=>exact Xao _
 |cons c l=>
  show(c::l).length≤((match decide (m=0)with|true=> []|false=>decDigits m)++(c::l)).length
  rw[Xaw]
  omega
def emp (s:List UInt8):Nat:=match s with
 | []=>1
 |_=>0
theorem Zmw (n:Nat) (hn:(n:Int)<9223372036854775808):PureOK Tryz.prog Zao 32 [.v (.i .i64) (n:Int)] (fun V=>V= .v .s (decDigits n)):=by
 refine Zai Zag Tryz.func32 ?_
 refine Xaa (fun _=> ?_) (fun h=> ?_)
 ·refine Zaw Zag rfl (fun(t:Nat×List UInt8)=> [(0, .v (.i .i64) (t.1:Int)),(3, .v .s t.2)]) (fun _=> [])
   (fun t=>t.1≤n∧(t.2=[]→t.1=n)∧ZtA t.1 t.2=decDigits n) (fun t=>2*t.1+emp t.2) ?_ (n,[]) ?_ ?_
  ·rintro⟨m,s⟩ ⟨h1,h3,I⟩
   simp only at h1 h3 I
   have h2:s.length≤19:=by
    have:=ZsN m s
    rw[I]at this
    exact XaM this (Zr9 (by decide) (by omega))
   have step:0<m∨s=[]→ ∃C J,(C,J)=(m/10,UInt8.ofNat (48+m % 10)::s)∧(C≤n∧(J=[]→C=n)∧ZtA C J=decDigits n)∧2*C+emp J<2*m+emp s:=fun R=>by
    refine⟨m/10,UInt8.ofNat (48+m % 10)::s,rfl,⟨by omega,fun h=>(List.cons_ne_nil _ _ h).elim,(ZqV R).trans I⟩, ?_⟩
    ·show 2*(m/10)+0<2*m+emp s
     rcases R with h|h
     ·omega
     ·subst h;show 2*(m/10)+0<2*m+1;omega
   have em:(m:Int).tmod 10=((m % 10:Nat):Int):=rfl
   have wm:IntKind.i64.wrap ((m:Int).tmod 10+1)=((m % 10+1:Nat):Int):=by rw[em];exact Zan (by omega) (by omega)
   have wq:IntKind.i64.wrap ((m:Int).tdiv 10)=((m/10:Nat):Int):=Zan (show-9223372036854775808≤((m/10:Nat):Int)by omega) (show((m/10:Nat):Int)<9223372036854775808 by omega)
   have U:List.drop ((m:Int).tmod 10).toNat (List.take (IntKind.i64.wrap ((m:Int).tmod 10+1)).toNat ZzP)=[UInt8.ofNat (48+m % 10)]:=by
    rw[wm,em,Xad,Xad]
    exact Zw0 (by omega)
   cases j:decide ((0:Int)<(m:Int))
   rotate_left 1
   refine Zae ?_
   iterate 3 refine Zac ?_
   refine Zah j ?_
   refine Zah j ?_
   refine Zat j ?_
   refine Zaf ?_
   refine brT j ?_
   have R:0<m∨s=[]:= .inl (by have:=of_decide_eq_true j;omega)
   rotate_left 1
   cases b2:s==[]
   refine Zae ?_
   iterate 3 refine Zac ?_
   refine Zab j ?_
   refine Zab j ?_
   refine Zal j ?_
   refine Zaf ?_
   refine brF b2 ?_
   have aa:m=0:=by have:=of_decide_eq_false j;omega
   have e:s=decDigits n:=by
    rw[aa]at I
    cases s with
    |nil=>cases b2
    |cons c l=>rw[←I];rfl
   exact congrArg (SV.v .s) e
   refine Zae ?_
   iterate 3 refine Zac ?_
   refine Zab j ?_
   refine Zab j ?_
   refine Zal j ?_
   refine Zaf ?_
   refine brT b2 ?_
   have R:0<m∨s=[]:= .inr (eq_of_beq b2)
   all_goals
    obtain⟨C,J,he,hinv,ab⟩:=step R
    cases he
    refine Xaa (by decide) ?_
    refine Xaa (by decide) ?_
    refine Xaa (show 0≤(m:Int).tmod 10∧(m:Int).tmod 10≤IntKind.i64.wrap ((m:Int).tmod 10+1)∧IntKind.i64.wrap ((m:Int).tmod 10+1)≤10 by rw[wm,em];omega) ?_
    refine Xaa (by show(List.drop ((m:Int).tmod 10).toNat (List.take (IntKind.i64.wrap ((m:Int).tmod 10+1)).toNat ZzP)).length+s.length≤9223372036854775807;rw[U];simp only[List.length_singleton];omega) ?_
    refine Xaa (by decide) ?_
    refine⟨(m/10,UInt8.ofNat (48+m % 10)::s),hinv,ab, ?_⟩
    refine Zas rfl rfl ?_ ?_
    ·have q:UInt8.ofNat (48+m % 10)::s=List.drop ((m:Int).tmod 10).toNat (List.take (IntKind.i64.wrap ((m:Int).tmod 10+1)).toNat ZzP)++s:=by rw[U];rfl
     exact⟨wq.symm,q,trivial⟩
    ·exact trivial
  ·exact⟨Xan _,fun _=>rfl,rfl⟩
  ·refine Zas rfl rfl ?_ ?_
   ·exact⟨rfl,rfl,trivial⟩
   ·exact trivial
 ·have h': ¬0≤(n:Int):=of_decide_eq_false h
  omega
theorem Zug (n:Int):Zc0 (n:Rat)=mns (decide (n<0)) (decDigits n.natAbs):=by
 rw[Zc0,Rat.num_intCast,Rat.den_intCast]
 show mns _ (decDigits n.natAbs++Zcb 1)=_
 rw[show Zcb 1=[]from rfl,XaF]
theorem Zt8 (n:Int) (h0: -9223372036854775808≤n) (I:n<9223372036854775808):PureOK Tryz.prog Zao 32 [.v (.i .i64) n] (fun V=>V= .v .s (Zc0 (n:Rat))):=by
 rw[Zug]
 by_cases J:0≤n
 ·obtain⟨k,rfl⟩: ∃k:Nat,n=k:=⟨n.toNat,by omega⟩
  refine(Zmw k I).mono ?_
  rintro _ rfl
  rw[decide_eq_false (by omega: ¬ (k:Int)<0),XaV]
  rfl
 ·rw[decide_eq_true (by omega:n<0)]
  refine Zai Zag Tryz.func32 ?_
  refine Xaa (fun h=>absurd (show 0≤n from of_decide_eq_true h) J) (fun _=> ?_)
  refine Xaa (fun h=> ?_) (fun h=> ?_)
  ·have j:n= -9223372036854775808:=of_decide_eq_true h
   subst j
   have R:Cn [57,50,50,51,51,55,50,48,51,54,56,53,52,55,55,53,56,48,56]:=ZiP.1 (by decide+kernel)
   have C:=R.eq
   have U:dec [57,50,50,51,51,55,50,48,51,54,56,53,52,55,55,53,56,48,56]=9223372036854775808:=by decide+kernel
   rw[U]at C
   show SV.v .s _=SV.v .s (45::decDigits 9223372036854775808)
   rw[C]
  ·have j: ¬n= -9223372036854775808:=of_decide_eq_false h
   have wn:IntKind.i64.wrap (0-n)=((n.natAbs:Nat):Int):=by
    rw[Zan (by omega) (by omega)]
    omega
   have hR:=Zmw n.natAbs (by omega)
   rw[←wn]at hR
   refine hR.mono ?_
   rintro _ rfl
   have hl:dl n.natAbs≤19:=Zr9 (by decide) (by omega)
   unfold dl at hl
   exact Xaa (by show 1+(decDigits n.natAbs).length≤9223372036854775807;omega) rfl
end Go.Proofs.YtapbiodcncnnfaaGreatDoor
namespace Go.Tx
open Go.Am
section
variable {P : Program} {h : Hints} {T : TypeId → TI} {hp : List SM} {tm : TM} {op : Op} {k : SV → List SM → Prop}
end
open Go.Am
theorem Zg6 {F:Nat} {hp:List SM} {tm r:TM} {k:Nat} {ct:CT} (hF:F≤hp.length) (hk:ZcD k tm=some .nils) (hr:Zz5 tm r):Ent F tm hp ((k, .ref hp.length 0 0 none)::r) (hp++ [.row ct [] true]):=by
 refine⟨fun φ st ad hs=> ?_⟩
 have hlen:=hs.hp.len
 have ext: ∀id,id<hp.length→(φ++ [none])[id]? =φ[id]? :=fun id h=>Xar (by omega)
 have le:Le φ (φ++ [none]):=fun id o h=>by rw[Xar (Xae.1 h).1];exact h
 have new:(φ++ [(none:Option Nat)])[hp.length]? =some none:=by rw[XaE (by omega),hlen,Nat.sub_self];rfl
 refine⟨φ++ [none],fun id hid=>ext id (by omega), ?_, ?_⟩
 ·intro i V hV
  simp only[ZcD]at hV
  cases e:Nat.beq i k with
  |true=>
   rw[e]at hV
   have:=Xam e
   subst this
   cases hV
   obtain⟨q,I,J⟩:=hs.tm _ _ hk
   refine⟨q,I, ?_⟩
   simp only[RV]at J⊢
   subst J
   exact .inr ⟨new,rfl,trivial,trivial,rfl⟩
  |false=>
   rw[e]at hV
   obtain⟨q,I,J⟩:=hs.tm _ _ (ZkH hr hV)
   exact⟨q,I,RV.mono le _ _ J⟩
 ·refine⟨by simp[hlen], ?_, ?_⟩
  ·intro id sm o j ho
   by_cases hid:id<hp.length
   ·rw[Xar hid]at j
    rw[ext id hid]at ho
    exact RM.mono le (fun _ _ _=>rfl) (hs.hp.row id sm o j ho)
   ·have C:=(Xae.1 j).1
    simp at C
    have e:id=hp.length:=by omega
    subst e
    rw[XaE (Xan _),Nat.sub_self]at j
    cases j
    rw[new]at ho;cases ho
    rfl
  ·intro id R sm aa a ab I J h3 h4 U h6
   have lt: ∀id sm,(hp++ [SM.row ct [] true])[id]? =some sm→(φ++ [none])[id]? =some (some a)→id<hp.length:=by
    intro id sm I U
    rcases XaO id hp.length with h|h
    ·exact h
    ·have C:=(Xae.1 I).1
     simp at C
     have e:id=hp.length:=by omega
     subst e
     rw[new]at U;cases U
   have l1:=lt id sm I U
   have l2:=lt R aa J h6
   rw[Xar l1]at I
   rw[Xar l2]at J
   rw[ext id l1]at U
   rw[ext R l2]at h6
   exact hs.hp.inj id R sm aa a ab I J h3 h4 U h6
def ZzK (n:Nat):List SM→Bool
 | []=>true
 |m::r=>Zqz n (ZiL m)&&ZzK n r
def ZAc (n:Nat):TM→Bool
 | []=>true
 |v::r=>Zqz n (Zdt v.2)&&ZAc n r
def Zz8:List Nat→Bool
 | []=>true
 |i::r=> !r.contains i&&Zz8 r
def Zs6 (f:Nat→Nat) (hp:List SM):List Nat→List SM→Prop
 | [],[]=>True
 |i::is,m::ms=>nth hp i=some (rnM f m)∧Zs6 f hp is ms
 |_,_=>False
def ZtD (f:Nat→Nat) (tm:TM):TM→Prop
 | []=>True
 |(i,V)::r=>ZcD i tm=some (rnV f V)∧ZtD f tm r
theorem Zsl: ∀ {l:List Nat},Zz8 l=true→l.Nodup
 | [],_=>List.nodup_nil
 |i::r,h=>by
  simp only[Zz8,Xag,Bool.not_eq_true']at h
  refine List.nodup_cons.2 ⟨fun hm=> ?_,Zsl h.2⟩
  rw[List.contains_iff_mem.2 hm]at h
  cases h.1
theorem ZtL {n:Nat}: ∀ {ms:List SM} {j:Nat} {m:SM},ZzK n ms=true→ms[j]? =some m→ ∀id∈ZiL m,id<n
 |m::_,0,_,h,e=>by
  cases e
  simp only[ZzK,Xag]at h
  exact fun id hi=>Ze5 h.1 hi
 |_::r,j+1,_,h,e=>by
  simp only[ZzK,Xag]at h
  exact ZtL (ms:=r) h.2 e
 | [],_,_,_,e=>by simp at e
theorem ZmF {f:Nat→Nat} {hp:List SM}: ∀ {is:List Nat} {ms:List SM},Zs6 f hp is ms→is.length=ms.length∧ ∀ (j:Nat) (x:SM),ms[j]? =some x→ ∃i,is[j]? =some i∧nth hp i=some (rnM f x)
 | [],[],_=>⟨rfl,fun j x h=>by simp at h⟩
 | [],_::_,h=>h.elim
 |_::_,[],h=>h.elim
 |i::is,m::ms,⟨I,J⟩=>by
  obtain⟨g1,g2⟩:=ZmF J
  refine⟨by simp[g1],fun j x C=> ?_⟩
  cases j with
  |zero=>cases C;exact⟨i,rfl,I⟩
  |succ j=>exact g2 j x C
theorem ZsR {f:Nat→Nat} {n:Nat} {tm:TM}: ∀ {tm':TM},ZAc n tm'=true→ZtD f tm tm'→Zwy f n tm tm'
 | [],_,_=>trivial
 |(i,V)::r,h,⟨j,C⟩=>by
  simp only[ZAc,Xag]at h
  exact⟨j,fun id hi=>Ze5 h.1 hi,ZsR h.2 C⟩
def ZAO (F:Nat) (is:List Nat):Bool:=(List.range F).all fun j=>Nat.beq (is.getD j 0) j
theorem Za6 {F:Nat} {tm tm':TM} {hp:List SM} (is:List Nat) {ms:List SM} (hc:(Zz8 is&&ZzK ms.length ms&&ZAc ms.length tm'&&(ZAO F is&&Nat.ble F ms.length))=true) (hk:Zs6 (fun j=>is.getD j 0) hp is ms) (R:ZtD (fun j=>is.getD j 0) tm tm'):Ent F tm hp tm' ms:=by
 simp only[Xag]at hc
 obtain⟨⟨⟨c1,c2⟩,c3⟩,c4,c5⟩:=hc
 obtain⟨hl,U⟩:=ZmF hk
 have aa:=Zsl c1
 have C: ∀j,j<ms.length→ ∃x i,ms[j]? =some x∧is[j]? =some i∧is.getD j 0=i∧nth hp i=some (rnM (fun j=>is.getD j 0) x):=fun j J=>by
  obtain⟨i,g1,g2⟩:=U j ms[j] (Xac J)
  exact⟨ms[j],i,Xac J,g1,by rw[Xa1,g1];rfl,g2⟩
 refine Zlg (fun j=>is.getD j 0) (Xal c5) (fun j J=>Xam (Xau.1 c4 j (List.mem_range.2 J))) (fun j J=> ?_) (fun a b ha hb I=> ?_) (ZsR c3 R) fun j x hx=> ?_
 ·obtain⟨x,i,_,_,g3,g4⟩:=C j J
  show is.getD j 0<_
  rw[g3]
  exact ZpP g4
 ·obtain⟨_,i,_,g2,g3,_⟩:=C a ha
  obtain⟨_,i',_,ab,ad,_⟩:=C b hb
  have I:is.getD a 0=is.getD b 0:=I
  rw[g3,ad]at I
  subst I
  exact Zla aa g2 ab
 ·obtain⟨J,_⟩:=Xae.1 hx
  obtain⟨y,i,g1,_,g3,g4⟩:=C j J
  rw[g1]at hx
  cases hx
  refine .inr ⟨?_,ZtL c2 g1⟩
  show hp[is.getD j 0]? =_
  rw[g3,←Za5,g4]
theorem Zez {P:Program} {h:Hints} {T:TypeId→TI} {tm:TM} {hp:List SM} {op:Op} {c:Call} {f:FuncId} {V:SV} {k:SV→List SM→Prop} (j:op= .call c) (C:c.callee= .value (.func f)) (I:evL tm c.args.toList=some [V]) (J:h.opn f=false) (R:h.imp f=true) (he:Zjq hp 40 V fun v=>ImpOK P h f [v] fun W U sf=>k (shS hp.length W) ((match sf with|true=>hp|false=>frzT hp (Zsm hp [V]))++ZxK hp.length U)):opT P h T op tm hp k:=by
 subst j
 simp only[opT,Zn1,I,C,evS,Ze8,J,R,ZAe,ZgF]
 exact he
end Go.Tx
namespace Go.Proofs.YtapbiodcncnnfaaGreatDoor
open Go.Am Go.Tx Ne Dv Go.Lib
theorem ZBc (l:List Sw) (C:l.length≤1000):ImpOK Tryz.prog Zao 39 [.v (.l ZlD) l] (fun V hp I=>V= .ref 0 0 l.length none∧hp=[.row ZlD l true]∧I=true):=by
 refine ZbR (fn:=Tryz.f39) (code:=Zbn Tryz.f39) Zag (by kernel_rfl) Tryz.func39 (by kernel_rfl) (Xal (by kernel_rfl)) ?_
 refine Xaa (fun h=>Xaa (fun _=> ?_) (fun h=>nomatch h)) (Xaa (fun h=>nomatch h) (fun _=> ?_))
 ·subst h
  refine⟨.ref 0 0 0 none,[.row ZlD [] true], ?_,rfl,rfl,rfl,rfl⟩
  exact Zas rfl rfl ⟨⟨rfl,rfl,rfl⟩,trivial⟩ ⟨rfl,trivial⟩
 ·cases l with
  |nil=>
   refine Xaa (Xao _) ?_
   refine⟨.ref 0 0 0 none,[.row ZlD [] true], ?_,rfl,rfl,rfl,rfl⟩
   exact Zas rfl rfl ⟨⟨rfl,rfl,rfl⟩,trivial⟩ ⟨⟨rfl,fun _=>rfl⟩,trivial⟩
  |cons x r=>
   refine Xaa (Xao _) ?_
   refine Xaa (show(0+(r.length+1))*56≤140737488355328 by rw[Xap]at C;omega) ?_
   refine⟨.ref 0 0 (r.length+1) none,[.row ZlD (x::r) true], ?_,rfl,rfl,rfl,rfl⟩
   have j:r.length+1=0+(r.length+1):=(Xaq _).symm
   exact Zas rfl rfl ⟨⟨rfl,j,j⟩,trivial⟩ ⟨⟨rfl,fun _=>rfl⟩,trivial⟩
theorem ZAs (l:List Br) (C:l.length≤1000):ImpOK Tryz.prog Zao 40 [.v (.l Zhx) l] (fun V hp I=>V= .ref 0 0 l.length none∧hp=[.row Zhx l true]∧I=true):=by
 refine ZbR (fn:=Tryz.f40) (code:=Zbn Tryz.f40) Zag (by kernel_rfl) Tryz.func40 (by kernel_rfl) (Xal (by kernel_rfl)) ?_
 refine Xaa (fun h=>Xaa (fun _=> ?_) (fun h=>nomatch h)) (Xaa (fun h=>nomatch h) (fun _=> ?_))
 ·subst h
  refine⟨.ref 0 0 0 none,[.row Zhx [] true], ?_,rfl,rfl,rfl,rfl⟩
  exact Zas rfl rfl ⟨⟨rfl,rfl,rfl⟩,trivial⟩ ⟨rfl,trivial⟩
 ·cases l with
  |nil=>
   refine Xaa (Xao _) ?_
   refine⟨.ref 0 0 0 none,[.row Zhx [] true], ?_,rfl,rfl,rfl,rfl⟩
   exact Zas rfl rfl ⟨⟨rfl,rfl,rfl⟩,trivial⟩ ⟨⟨rfl,fun _=>rfl⟩,trivial⟩
  |cons x r=>
   refine Xaa (Xao _) ?_
   refine Xaa (show(0+(r.length+1))*96≤140737488355328 by rw[Xap]at C;omega) ?_
   refine⟨.ref 0 0 (r.length+1) none,[.row Zhx (x::r) true], ?_,rfl,rfl,rfl,rfl⟩
   have j:r.length+1=0+(r.length+1):=(Xaq _).symm
   exact Zas rfl rfl ⟨⟨rfl,j,j⟩,trivial⟩ ⟨⟨rfl,fun _=>rfl⟩,trivial⟩
theorem ZAT (l:List Ge) (C:l.length≤1000):ImpOK Tryz.prog Zao 41 [.v (.l (.p .s (.p .s (.p (.i .i64) (.p (.i .i64) (.i .i64)))))) l] (fun V hp I=>V= .ref 0 0 l.length none∧hp=[.row (.p .s (.p .s (.p (.i .i64) (.p (.i .i64) (.i .i64))))) l true]∧I=true):=by
 refine ZbR (fn:=Tryz.f41) (code:=Zbn Tryz.f41) Zag (by kernel_rfl) Tryz.func41 (by kernel_rfl) (Xal (by kernel_rfl)) ?_
 refine Xaa (fun h=>Xaa (fun _=> ?_) (fun h=>nomatch h)) (Xaa (fun h=>nomatch h) (fun _=> ?_))
 ·subst h
  refine⟨.ref 0 0 0 none,[.row (.p .s (.p .s (.p (.i .i64) (.p (.i .i64) (.i .i64))))) [] true], ?_,rfl,rfl,rfl,rfl⟩
  exact Zas rfl rfl ⟨⟨rfl,rfl,rfl⟩,trivial⟩ ⟨rfl,trivial⟩
 ·cases l with
  |nil=>
   refine Xaa (Xao _) ?_
   refine⟨.ref 0 0 0 none,[.row (.p .s (.p .s (.p (.i .i64) (.p (.i .i64) (.i .i64))))) [] true], ?_,rfl,rfl,rfl,rfl⟩
   exact Zas rfl rfl ⟨⟨rfl,rfl,rfl⟩,trivial⟩ ⟨⟨rfl,fun _=>rfl⟩,trivial⟩
  |cons x r=>
   refine Xaa (Xao _) ?_
   refine Xaa (show(0+(r.length+1))*56≤140737488355328 by rw[Xap]at C;omega) ?_
   refine⟨.ref 0 0 (r.length+1) none,[.row (.p .s (.p .s (.p (.i .i64) (.p (.i .i64) (.i .i64))))) (x::r) true], ?_,rfl,rfl,rfl,rfl⟩
   have j:r.length+1=0+(r.length+1):=(Xaq _).symm
   exact Zas rfl rfl ⟨⟨rfl,j,j⟩,trivial⟩ ⟨⟨rfl,fun _=>rfl⟩,trivial⟩
theorem ZAG (l:List Lo) (C:l.length≤1000):ImpOK Tryz.prog Zao 42 [.v (.l (.p .s (.p .s (.i .i64)))) l] (fun V hp I=>V= .ref 0 0 l.length none∧hp=[.row (.p .s (.p .s (.i .i64))) l true]∧I=true):=by
 refine ZbR (fn:=Tryz.f42) (code:=Zbn Tryz.f42) Zag (by kernel_rfl) Tryz.func42 (by kernel_rfl) (Xal (by kernel_rfl)) ?_
 refine Xaa (fun h=>Xaa (fun _=> ?_) (fun h=>nomatch h)) (Xaa (fun h=>nomatch h) (fun _=> ?_))
 ·subst h
  refine⟨.ref 0 0 0 none,[.row (.p .s (.p .s (.i .i64))) [] true], ?_,rfl,rfl,rfl,rfl⟩
  exact Zas rfl rfl ⟨⟨rfl,rfl,rfl⟩,trivial⟩ ⟨rfl,trivial⟩
 ·cases l with
  |nil=>
   refine Xaa (Xao _) ?_
   refine⟨.ref 0 0 0 none,[.row (.p .s (.p .s (.i .i64))) [] true], ?_,rfl,rfl,rfl,rfl⟩
   exact Zas rfl rfl ⟨⟨rfl,rfl,rfl⟩,trivial⟩ ⟨⟨rfl,fun _=>rfl⟩,trivial⟩
  |cons x r=>
   refine Xaa (Xao _) ?_
   refine Xaa (show(0+(r.length+1))*40≤140737488355328 by rw[Xap]at C;omega) ?_
   refine⟨.ref 0 0 (r.length+1) none,[.row (.p .s (.p .s (.i .i64))) (x::r) true], ?_,rfl,rfl,rfl,rfl⟩
   have j:r.length+1=0+(r.length+1):=(Xaq _).symm
   exact Zas rfl rfl ⟨⟨rfl,j,j⟩,trivial⟩ ⟨⟨rfl,fun _=>rfl⟩,trivial⟩
theorem ZAn (l:List Sto) (C:l.length≤1000):ImpOK Tryz.prog Zao 43 [.v (.l (.p .s (.p .s (.p (.i .i64) (.p (.i .i64) (.i .i64)))))) l] (fun V hp I=>V= .ref 0 0 l.length none∧hp=[.row (.p .s (.p .s (.p (.i .i64) (.p (.i .i64) (.i .i64))))) l true]∧I=true):=by
 refine ZbR (fn:=Tryz.f43) (code:=Zbn Tryz.f43) Zag (by kernel_rfl) Tryz.func43 (by kernel_rfl) (Xal (by kernel_rfl)) ?_
 refine Xaa (fun h=>Xaa (fun _=> ?_) (fun h=>nomatch h)) (Xaa (fun h=>nomatch h) (fun _=> ?_))
 ·subst h
  refine⟨.ref 0 0 0 none,[.row (.p .s (.p .s (.p (.i .i64) (.p (.i .i64) (.i .i64))))) [] true], ?_,rfl,rfl,rfl,rfl⟩
  exact Zas rfl rfl ⟨⟨rfl,rfl,rfl⟩,trivial⟩ ⟨rfl,trivial⟩
 ·cases l with
  |nil=>
   refine Xaa (Xao _) ?_
   refine⟨.ref 0 0 0 none,[.row (.p .s (.p .s (.p (.i .i64) (.p (.i .i64) (.i .i64))))) [] true], ?_,rfl,rfl,rfl,rfl⟩
   exact Zas rfl rfl ⟨⟨rfl,rfl,rfl⟩,trivial⟩ ⟨⟨rfl,fun _=>rfl⟩,trivial⟩
  |cons x r=>
   refine Xaa (Xao _) ?_
   refine Xaa (show(0+(r.length+1))*56≤140737488355328 by rw[Xap]at C;omega) ?_
   refine⟨.ref 0 0 (r.length+1) none,[.row (.p .s (.p .s (.p (.i .i64) (.p (.i .i64) (.i .i64))))) (x::r) true], ?_,rfl,rfl,rfl,rfl⟩
   have j:r.length+1=0+(r.length+1):=(Xaq _).symm
   exact Zas rfl rfl ⟨⟨rfl,j,j⟩,trivial⟩ ⟨⟨rfl,fun _=>rfl⟩,trivial⟩
theorem ZAo (l:List Txt) (C:l.length≤1000):ImpOK Tryz.prog Zao 38 [.v (.l .s) l] (fun V hp I=>V= .ref 0 0 l.length none∧hp=[.row .s l true]∧I=true):=by
 refine ZbR (fn:=Tryz.f38) (code:=Zbn Tryz.f38) Zag (by kernel_rfl) Tryz.func38 (by kernel_rfl) (Xal (by kernel_rfl)) ?_
 refine Xaa (fun h=>Xaa (fun _=> ?_) (fun h=>nomatch h)) (Xaa (fun h=>nomatch h) (fun _=> ?_))
 ·subst h
  refine⟨.ref 0 0 0 none,[.row .s [] true], ?_,rfl,rfl,rfl,rfl⟩
  exact Zas rfl rfl ⟨⟨rfl,rfl,rfl⟩,trivial⟩ ⟨rfl,trivial⟩
 ·cases l with
  |nil=>
   refine Xaa (Xao _) ?_
   refine⟨.ref 0 0 0 none,[.row .s [] true], ?_,rfl,rfl,rfl,rfl⟩
   exact Zas rfl rfl ⟨⟨rfl,rfl,rfl⟩,trivial⟩ ⟨⟨rfl,fun _=>rfl⟩,trivial⟩
  |cons x r=>
   refine Xaa (Xao _) ?_
   refine Xaa (show(0+(r.length+1))*16≤140737488355328 by rw[Xap]at C;omega) ?_
   refine⟨.ref 0 0 (r.length+1) none,[.row .s (x::r) true], ?_,rfl,rfl,rfl,rfl⟩
   have j:r.length+1=0+(r.length+1):=(Xaq _).symm
   exact Zas rfl rfl ⟨⟨rfl,j,j⟩,trivial⟩ ⟨⟨rfl,fun _=>rfl⟩,trivial⟩
abbrev Zwc:CT:= .p .s (.p .s (.p (.i .i64) (.p (.i .i64) (.i .i64))))
abbrev Zz4:CT:= .p .s (.p .s (.i .i64))
def ZBl (b:Nat) (n:Ne.Net):List SV:=[.ref (b+0) 0 n.nodes.length none, .ref (b+1) 0 n.sws.length none, .ref (b+2) 0 n.brs.length none, .ref (b+3) 0 n.gens.length none, .ref (b+4) 0 n.loads.length none, .ref (b+5) 0 n.stores.length none]
def ZBh (n:Ne.Net):List SM:=[.row .s n.nodes true, .row ZlD n.sws true, .row Zhx n.brs true, .row Zwc n.gens true, .row Zz4 n.loads true, .row Zwc n.stores true]
abbrev Zyp:List SV:=[.nils, .nils, .nils, .nils, .nils, .nils]
theorem ZzY (n:Ne.Net) (j:big n=false):ImpOK Tryz.prog Zao 18 [.agg (Zdo n)] (fun V hp C=>V= .agg (ZBl 0 n)∧hp=ZBh n∧C=true):=by
 refine ZbR (fn:=Tryz.f18) (code:=Zbn Tryz.f18) Zag (by kernel_rfl) Tryz.func18 (by kernel_rfl) (Xal (by kernel_rfl)) ?_
 simp only[big,Xbg,decide_eq_false_iff_not]at j
 obtain⟨b1,b2,b3,b4,b5,b6⟩:=j
 have I:=ZAo n.nodes (by omega)
 have J:=ZBc n.sws (by omega)
 have R:=ZAs n.brs (by omega)
 have U:=ZAT n.gens (by omega)
 have h5:=ZAG n.loads (by omega)
 have h6:=ZAn n.stores (by omega)
 refine Zae ?_
 refine ZbB ?_
 refine ZbB ?_
 refine Zaf ?_
 refine Zae ?_
 refine Zac ?_
 refine Zap rfl (fun _=>rfl) rfl rfl rfl ?_
 refine Zad rfl ((I.mono ?_))
 rintro _ _ _ ⟨rfl,rfl,rfl⟩
 refine Zaa rfl rfl ?_
 refine Zj5 (hp':=[.cell (Zdo n) true, .cell Zyp true, .row .s n.nodes true]) rfl ?_
 refine Zac ?_
 refine Zap rfl (fun _=>rfl) rfl rfl rfl ?_
 refine Zad rfl ((J.mono ?_))
 rintro _ _ _ ⟨rfl,rfl,rfl⟩
 refine Zaa rfl rfl ?_
 refine Zj5 (hp':=[.cell (Zdo n) true, .cell Zyp true, .row .s n.nodes true, .row ZlD n.sws true]) rfl ?_
 refine Zac ?_
 refine Zap rfl (fun _=>rfl) rfl rfl rfl ?_
 refine Zad rfl ((R.mono ?_))
 rintro _ _ _ ⟨rfl,rfl,rfl⟩
 refine Zaa rfl rfl ?_
 refine Zj5 (hp':=[.cell (Zdo n) true, .cell Zyp true, .row .s n.nodes true, .row ZlD n.sws true, .row Zhx n.brs true]) rfl ?_
 refine Zac ?_
 refine Zap rfl (fun _=>rfl) rfl rfl rfl ?_
 refine Zad rfl ((U.mono ?_))
 rintro _ _ _ ⟨rfl,rfl,rfl⟩
 refine Zaa rfl rfl ?_
 refine Zj5 (hp':=[.cell (Zdo n) true, .cell Zyp true, .row .s n.nodes true, .row ZlD n.sws true, .row Zhx n.brs true, .row Zwc n.gens true]) rfl ?_
 refine Zac ?_
 refine Zap rfl (fun _=>rfl) rfl rfl rfl ?_
 refine Zad rfl ((h5.mono ?_))
 rintro _ _ _ ⟨rfl,rfl,rfl⟩
 refine Zaa rfl rfl ?_
 refine Zj5 (hp':=[.cell (Zdo n) true, .cell Zyp true, .row .s n.nodes true, .row ZlD n.sws true, .row Zhx n.brs true, .row Zwc n.gens true, .row Zz4 n.loads true]) rfl ?_
 refine Zac ?_
 refine Zap rfl (fun _=>rfl) rfl rfl rfl ?_
 refine Zad rfl ((h6.mono ?_))
 rintro _ _ _ ⟨rfl,rfl,rfl⟩
 refine Zaa rfl rfl ?_
 refine Zj5 (hp':=[.cell (Zdo n) true, .cell Zyp true, .row .s n.nodes true, .row ZlD n.sws true, .row Zhx n.brs true, .row Zwc n.gens true, .row Zz4 n.loads true, .row Zwc n.stores true]) rfl ?_
 refine Zac ?_
 refine Zad rfl (Xaa rfl ?_)
 refine⟨rfl, ?_⟩
 refine⟨.agg (ZBl 0 n),ZBh n, ?_,rfl,rfl,rfl,rfl⟩
 refine Zas (σ:=[.is 2, .is 3, .is 4, .is 5, .is 6, .is 7]) rfl rfl ?_ ?_
 ·exact⟨⟨⟨rfl,rfl,rfl⟩,⟨rfl,rfl,rfl⟩,⟨rfl,rfl,rfl⟩,⟨rfl,rfl,rfl⟩,⟨rfl,rfl,rfl⟩,⟨rfl,rfl,rfl⟩,trivial⟩,trivial⟩
 ·exact⟨⟨rfl,id⟩,⟨rfl,id⟩,⟨rfl,id⟩,⟨rfl,id⟩,⟨rfl,id⟩,⟨rfl,id⟩,trivial⟩
def ZlF (v:List (List UInt8)):Int:=match decide ((40:Int)<(v.length:Int))with
 |true=>2
 |false=>ZeK v
theorem Zts {v:List (List UInt8)} (h:ZlF v=0):v.length≤40∧ZeK v=0:=by
 unfold ZlF at h
 cases j:decide ((40:Int)<(v.length:Int))with
 |true=>rw[j]at h;cases h
 |false=>rw[j]at h;exact⟨by have:=of_decide_eq_false j;omega,h⟩
theorem ZpX (v:List (List UInt8)) (C: ∀a∈v,a.length≤9223372036854775806):PureOK Tryz.prog Zao 24 [.v (.l .s) v] (fun V=>V= .v (.i .i64) (ZlF v)):=by
 refine Zai Zag Tryz.func24 ?_
 have hE:ZlF v=match decide ((40:Int)<(v.length:Int))with|true=>2|false=>ZeK v:=rfl
 rw[hE]
 refine Xaa (fun h=> ?_) (fun h=> ?_)
 ·have j:decide ((40:Int)<(v.length:Int))=true:=h
  rw[j]
  rfl
 ·have j:decide ((40:Int)<(v.length:Int))=false:=h
  rw[j]
  refine(ZqB v (by have:=of_decide_eq_false j;omega) C).mono ?_
  rintro _ rfl
  rfl
theorem Zqj (v:List (List UInt8)) (C: ∀a∈v,a.length≤9223372036854775806):PureOK Tryz.prog Zao 8 [.v (.l .s) v] (fun V=>V= .v (.i .i64) (ZlF v)):=by
 refine Zai Zag Tryz.func8 ?_
 have hE:ZlF v=match decide ((40:Int)<(v.length:Int))with|true=>2|false=>ZeK v:=rfl
 rw[hE]
 refine Xaa (fun h=> ?_) (fun h=> ?_)
 ·have j:decide ((40:Int)<(v.length:Int))=true:=h
  rw[j]
  rfl
 ·have j:decide ((40:Int)<(v.length:Int))=false:=h
  rw[j]
  refine(ZnT v (by have:=of_decide_eq_false j;omega) C).mono ?_
  rintro _ rfl
  rfl
theorem Zma {q:Rat} (h:Zkj q=true):szQ q 208:=by
 obtain⟨I,J⟩:=Zdw.1 h
 have j: ∀n:Nat,(decDigits n).length≤2000→(wOf n).length≤208:=fun n R=>by
  have C:=ZbI (ZaT n)
  rw[Zay]at C
  exact ZdR.2 (XaJ C (ZBe (m:=250) (n:=26) 8 (by decide+kernel) R (by decide) rfl))
 refine⟨j _ I, ?_⟩
 rw[ln,XaV]
 exact j _ J
abbrev qct:CT:= .p (.p .b (.l (.i .u32))) (.p .b (.l (.i .u32)))
def Zn0 (q:Rat):qct.D:=((decide (q.num<0),wOf q.num.natAbs),(decide ((q.den:Int)<0),wOf (q.den:Int).natAbs))
theorem Zrs (q:Rat):PureOK Tryz.prog Zao 52 [QR q] (fun V=>V= .v (.i .i64) q.num.sign):=by
 refine Zai Zag Tryz.func52 ?_
 refine Xaa rfl ?_
 refine(ZsK q.num).mono ?_
 rintro _ rfl
 rfl
theorem Zzm (q:Rat) {k:Nat} (C:k≤100000) (I:szQ q k):PureOK Tryz.prog Zao 26 [QR q] (fun V=>V=QR (Zjw q)):=by
 refine Zai Zag Tryz.func26 ?_
 rw[Zjw]
 cases h:decide (q.num.sign<0)with
 |true=>
  refine Zae ?_
  refine ZbB ?_
  refine ZbB ?_
  refine Zaf ?_
  refine Zae ?_
  refine Zap rfl (fun _=>rfl) rfl rfl rfl ?_
  refine Zad rfl (((Zrs q)).mono ?_)
  rintro _ rfl
  refine Zaa rfl rfl ?_
  refine Zac ?_
  refine Zaf ?_
  refine Xaa (fun _=> ?_) (fun j=>by first|(cases j;done)|exact(nf h j).elim)
  refine Zae ?_
  refine Zap rfl (fun _=>rfl) rfl rfl rfl ?_
  refine Zad rfl (((Zx1 q C I)).mono ?_)
  rintro _ rfl
  refine Zaa rfl rfl ?_
  refine Zad rfl (Xaa rfl ?_)
  exact⟨rfl,rfl⟩
 |false=>
  refine Zae ?_
  refine ZbB ?_
  refine ZbB ?_
  refine Zaf ?_
  refine Zae ?_
  refine Zap rfl (fun _=>rfl) rfl rfl rfl ?_
  refine Zad rfl (((Zrs q)).mono ?_)
  rintro _ rfl
  refine Zaa rfl rfl ?_
  refine Zac ?_
  refine Zaf ?_
  refine Xaa (fun j=>by first|(cases j;done)|exact(nf j h).elim) (fun _=> ?_)
  refine Zae ?_
  refine Zap rfl (fun _=>rfl) rfl rfl rfl ?_
  refine Zad rfl (Xaa rfl ?_)
  exact⟨rfl,rfl⟩
theorem Zvl (q:Rat) {k:Nat} (C:k≤40000) (I:dz q k):PureOK Tryz.prog Zao 30 [.v .s (Zc0 q)] (fun V=>V= .v .s (Zc0 (Zjw q))):=by
 refine Zai Zag Tryz.func30 ?_
 rw[Zjw]
 have J:=Zmy q (XaM C (by decide)) I
 have hN:=ZoO q C I
 cases h:decide (q.num.sign<0)with
 |true=>
  refine Zae ?_
  refine Zac ?_
  refine Zaf ?_
  refine Zae ?_
  refine Zac ?_
  refine Zad rfl ((J).mono ?_)
  rintro _ rfl
  refine Zaa rfl rfl ?_
  refine Zac ?_
  refine Zaf ?_
  refine Xaa (fun _=> ?_) (fun j=>by first|(cases j;done)|exact(nf h j).elim)
  refine Zae ?_
  refine Zac ?_
  refine Zad rfl ((hN).mono ?_)
  rintro _ rfl
  refine Zaa rfl rfl ?_
  refine Zac ?_
  refine Zaf ?_
  rfl
 |false=>
  refine Zae ?_
  refine Zac ?_
  refine Zaf ?_
  refine Zae ?_
  refine Zac ?_
  refine Zad rfl ((J).mono ?_)
  rintro _ rfl
  refine Zaa rfl rfl ?_
  refine Zac ?_
  refine Zaf ?_
  refine Xaa (fun j=>by first|(cases j;done)|exact(nf j h).elim) (fun _=> ?_)
  refine Zae ?_
  iterate 2 refine Zac ?_
  refine Zaf ?_
  rfl
abbrev IC:CT:= .i .i64
theorem Zxa (n:Nat) (j:n<41):PureOK Tryz.prog Zao 83 [.v (.i .u64) (1:Int), .v (.i .u64) (n:Int)] (fun V=>V= .tup [.v (.i .u64) (0:Int), .v (.i .u64) (n:Int)]):=by
 refine Zai Zag Tryz.func83 ?_
 refine Xaa (show(0:Int)≤32 by decide) ?_
 refine Xaa (show(0:Int)≤32 by decide) ?_
 refine Xaa (show(0:Int)≤32 by decide) ?_
 refine Xaa (show(0:Int)≤32 by decide) ?_
 refine Xaa (show(0:Int)≤32 by decide) ?_
 refine congrArg (fun x:Int×Int=>SV.tup [.v (.i .u64) x.1, .v (.i .u64) x.2]) (?_:(_,_)=((0:Int),(n:Int)))
 revert n
 decide+kernel
theorem ZyK (n:Nat) (j:n<41):PureOK Tryz.prog Zao 65 [.v (.i .u64) (1:Int), .v (.i .u64) (n:Int)] (fun V=>V= .tup [.v (.i .u64) (0:Int), .v (.i .u64) (n:Int)]):=by
 refine Zai Zag Tryz.func65 ?_
 refine brF rfl ?_
 refine(Zxa n j).mono ?_
 rintro _ rfl
 rfl
theorem ZtW (x:qct.D) (n:Nat) (hn:n<41):ImpOK Tryz.prog Zao 44 [.v (.l qct) [x], .v (.i .i64) (n:Int)] (fun V hp sf=>V= .ref 0 0 n none∧hp=[.row qct (List.replicate n x) true]∧sf=false):=by
 refine ZbR (fn:=Tryz.f44) (code:=Zbn Tryz.f44) Zag (by kernel_rfl) Tryz.func44 (by kernel_rfl) (Xal (by kernel_rfl)) ?_
 have u1:IntKind.u64.wrap (n:Int)=(n:Int):=by revert n;decide+kernel
 have u2:IntKind.i64.wrap (n:Int)=(n:Int):=by revert n;decide+kernel
 have hM:PureOK Tryz.prog Zao 65 [.v (.i .u64) (1:Int), .v (.i .u64) (IntKind.u64.wrap (n:Int))] (fun V=>V= .tup [.v (.i .u64) (0:Int), .v (.i .u64) (n:Int)]):=by rw[u1];exact ZyK n hn
 have hb:decide ((9223372036854775807:Int)<(n:Int))=false:=decide_eq_false (by omega)
 refine Xaa (fun h=> ?_) (fun _=> ?_)
 ·have I:decide ((n:Int)<0)=true:=h
  have:=of_decide_eq_true I
  omega
 refine hM.mono ?_
 rintro _ rfl
 refine Zae ?_
 iterate 3 refine Zac ?_
 refine Zab rfl ?_
 refine Zab rfl ?_
 refine Zal rfl ?_
 refine Zaf ?_
 refine brF hb ?_
 have cz:0≤IntKind.i64.wrap (n:Int)∧IntKind.i64.wrap (n:Int)≤IntKind.i64.wrap (n:Int)∧(64:Int)*IntKind.i64.wrap (n:Int)≤281474976710656∧IntKind.i64.wrap (n:Int)<9223372036854775808:=by rw[u2];omega
 have C:(IntKind.i64.wrap (n:Int)).toNat=n:=by rw[u2,Xad]
 refine Xaa cz ?_
 refine Xaa (show 0+(IntKind.i64.wrap (n:Int)).toNat≤(List.replicate (IntKind.i64.wrap (n:Int)).toNat qct.z).length by simp) ?_
 refine Zaw Zag rfl (fun(t:Nat×List qct.D)=> [(7, .ref 0 0 n none),(8, .v (.i .i64) (t.1:Int))]) (fun t=> [.row qct t.2 true])
  (fun t=>t.2.length=n∧t.1≤n∧t.2.take t.1=List.replicate t.1 x∧(t.1=0→n=0)) (fun t=>n-t.1) ?_ (min 1 n,spl (List.replicate n qct.z) 0 ([x].take n)) ?_ ?_
 ·rintro⟨c,out⟩ ⟨hl,hc,j,h0⟩
  simp only at hl hc j h0
  refine Xaa (fun h=> ?_) (fun h=> ?_)
  ·have aa:c<n:=by have I:(c:Int)<(n:Int):=of_decide_eq_true h;omega
   have hs:(sub out (0+0) ((c:Int).toNat-0)).length=c:=by rw[sub,Xas,XaZ];omega
   have J:sub out (0+0) ((c:Int).toNat-0)=List.replicate c x:=by rw[←j];rfl
   refine Xaa (show(0:Int)≤(c:Int)∧(c:Int)≤((n:Nat):Int)by omega) ?_
   refine Xaa (show(0:Int)≤(c:Int)∧(c:Int)≤((n:Nat):Int)by omega) ?_
   refine Xaa (show 0+0+((c:Int).toNat-0)≤out.length by omega) ?_
   refine Xaa (show 0+(c:Int).toNat+(n-(c:Int).toNat)≤out.length by omega) ?_
   have w:IntKind.i64.wrap ((c:Int)+((min (sub out (0+0) ((c:Int).toNat-0)).length (n-(c:Int).toNat):Nat):Int))=((c+min c (n-c):Nat):Int):=by
    rw[hs,Xad,Zan (by omega) (by omega)]
    omega
   refine⟨(c+min c (n-c),spl out (0+(c:Int).toNat) ((sub out (0+0) ((c:Int).toNat-0)).take (n-(c:Int).toNat))), ?_,by show n-(c+min c (n-c))<n-c;omega, ?_⟩
   ·rw[J,Xad,Xaq,List.take_replicate]
    have hm:min (n-c) c=min c (n-c):=Nat.min_comm _ _
    refine⟨?_,by show c+min c (n-c)≤n;omega, ?_,fun h=>by have h:c+min c (n-c)=0:=h;omega⟩
    ·show(spl out c (List.replicate (min (n-c) c) x)).length=n
     rw[spl,Xaw,Xaw,Xas,XaZ,List.length_replicate]
     omega
    ·show(spl out c (List.replicate (min (n-c) c) x)).take (c+min c (n-c))=List.replicate (c+min c (n-c)) x
     rw[spl,j,←Xbn,List.replicate_append_replicate,hm,List.take_append_of_le_length (by rw[List.length_replicate];omega),List.take_replicate,Nat.min_self]
   ·refine Zas rfl rfl ?_ ?_
    ·exact⟨⟨rfl,rfl,rfl⟩,w.symm,trivial⟩
    ·exact⟨⟨rfl,fun _=>rfl⟩,trivial⟩
  ·have R:c=n:=by have I: ¬ (c:Int)<(n:Int):=of_decide_eq_false h;omega
   have ho:out=List.replicate n x:=by rw[R,Xay (by omega)]at j;exact j
   refine⟨.ref 0 0 n none,[.row qct (List.replicate n x) true], ?_,rfl,rfl,rfl,rfl⟩
   refine Zas rfl rfl ?_ ?_
   ·exact⟨⟨rfl,rfl,rfl⟩,trivial⟩
   ·exact⟨⟨ho.symm,fun _=>rfl⟩,trivial⟩
 ·cases n with
  |zero=>exact⟨rfl,Xan 0,rfl,fun _=>rfl⟩
  |succ n=>
   have U:[x].take (n+1)=[x]:=Xay (by simp)
   rw[U]
   refine⟨?_,show min 1 (n+1)≤n+1 by omega, ?_,fun h=>by have h:min 1 (n+1)=0:=h;omega⟩
   ·show(spl (List.replicate (n+1) qct.z) 0 [x]).length=n+1
    rw[spl,Xaw,Xaw,Xas,XaZ,List.length_replicate]
    simp
    omega
   ·show(spl (List.replicate (n+1) qct.z) 0 [x]).take (min 1 (n+1))=List.replicate (min 1 (n+1)) x
    rw[show min 1 (n+1)=1 by omega]
    rfl
 ·refine Zas rfl rfl ?_ ?_
  ·exact⟨⟨rfl,C.symm,C.symm⟩,by rw[C];rfl,trivial⟩
  ·exact⟨⟨by rw[C];rfl,fun _=>rfl⟩,trivial⟩
theorem Zyd (n:Nat) (j:n<41):ImpOK Tryz.prog Zao 19 [.v (.i .i64) (n:Int)] (fun V hp C=>V= .ref 0 0 n none∧hp=[.row qct (List.replicate n (Zn0 0)) true]∧C=false):=by
 refine ZbR (fn:=Tryz.f19) (code:=Zbn Tryz.f19) Zag (by kernel_rfl) Tryz.func19 (by kernel_rfl) (Xal (by kernel_rfl)) ?_
 have I:=Zsv 0 (by decide) (by decide)
 have hR:=ZtW (Zn0 0) n j
 refine Zae ?_
 refine Zac ?_
 refine Zaf ?_
 refine Zae ?_
 refine Zad rfl ((I).mono ?_)
 rintro _ rfl
 refine Zaa rfl rfl ?_
 refine ZbB ?_
 refine Zac ?_
 refine Zad rfl (Xaa (show 0+1≤1 by decide) (hR.mono ?_))
 rintro _ _ _ ⟨rfl,rfl,rfl⟩
 refine Zaa rfl rfl ?_
 refine Zac ?_
 refine Zaf ?_
 refine⟨.ref 0 0 n none,[.row qct (List.replicate n (Zn0 0)) true], ?_,rfl,rfl,rfl,rfl⟩
 exact Zas (σ:=[.is 1]) rfl rfl ⟨⟨rfl,rfl,rfl⟩,trivial⟩ ⟨⟨rfl,id⟩,trivial⟩
def wS (i j k l N:Nat) (t:Int):List SV:=[.ref i 0 N none, .ref j 0 N none, .ref k 0 N none, .ref l 0 N none, .v IC t]
def ZBE (n:Ne.Net):List SM:=[.cell (Zdo n) true, .cell (Zdo n) true, .row .s n.nodes true, .row ZlD n.sws true, .row Zhx n.brs true, .row Zwc n.gens true, .row Zz4 n.loads true, .row Zwc n.stores true, .row qct (List.replicate n.brs.length (Zn0 0)) true, .row IC (List.replicate n.brs.length (0:Int)) true, .row .b (List.replicate n.brs.length false) true, .cell (wS 4 8 9 10 n.brs.length 0) true]
theorem ZAz (n:Ne.Net) (hz:Zii n):OpenOK Tryz.prog Zao 5 [.agg (Zdo n)] [.cell (Zdo n) true] (fun V hp=>match decide (ZeC n=0)with
 |false=>V= .tup [.nilp, .v (.i .i64) (ZeC n)]∧hp=[.cell (Zdo n) true, .cell (Zdo n) true]
 |true=>V= .tup [.ptr 11 0 0, .v (.i .i64) (0:Int)]∧hp=ZBE n):=by
 refine Zd2 (fn:=Tryz.f5) (code:=Zbn Tryz.f5) Zag (by kernel_rfl) Tryz.func5 (by kernel_rfl) (Xal (by kernel_rfl)) ?_
 intro base
 have R:=ZwZ n hz
 cases h:decide (ZeC n=0)with
 |false=>
  have C:(!decide (ZeC n=0))=true:=by rw[h];rfl
  refine Zae ?_
  refine ZbB ?_
  iterate 2 refine Zac ?_
  refine Zaf ?_
  refine Zae ?_
  refine Zap rfl (fun _=>rfl) rfl rfl rfl ?_
  refine Zad rfl ((R).mono ?_)
  rintro _ rfl
  refine Zaa rfl rfl ?_
  refine Zac ?_
  refine Zaf ?_
  refine Zae ?_
  iterate 2 refine Zac ?_
  refine Zaf ?_
  refine Xaa (fun _=> ?_) (fun j=>by first|(cases j;done)|exact(nf C j).elim)
  refine Zae ?_
  iterate 3 refine Zac ?_
  refine Zaf ?_
  exact⟨rfl,rfl⟩
 |true=>
  have C:(!decide (ZeC n=0))=false:=by rw[h];rfl
  have U:=ZrI (of_decide_eq_true h)
  obtain⟨_,_,b3,_⟩:=Zev U
  have hP:=ZzY n U.big
  have hZ:=Zyd n.brs.length (by omega)
  have I:0≤(n.brs.length:Int)∧(n.brs.length:Int)≤(n.brs.length:Int)∧(8:Int)*(n.brs.length:Int)≤281474976710656∧(n.brs.length:Int)<9223372036854775808:=by omega
  have J:0≤(n.brs.length:Int)∧(n.brs.length:Int)≤(n.brs.length:Int)∧(1:Int)*(n.brs.length:Int)≤281474976710656∧(n.brs.length:Int)<9223372036854775808:=by omega
  refine Zae ?_
  refine ZbB ?_
  iterate 2 refine Zac ?_
  refine Zaf ?_
  refine Zae ?_
  refine Zap rfl (fun _=>rfl) rfl rfl rfl ?_
  refine Zad rfl ((R).mono ?_)
  rintro _ rfl
  refine Zaa rfl rfl ?_
  refine Zac ?_
  refine Zaf ?_
  refine Zae ?_
  iterate 2 refine Zac ?_
  refine Zaf ?_
  refine Xaa (fun j=>by first|(cases j;done)|exact(nf j C).elim) (fun _=> ?_)
  refine Zae ?_
  refine Zac ?_
  refine Zap rfl (fun _=>rfl) rfl rfl rfl ?_
  iterate 2 refine Zac ?_
  refine Zaf ?_
  refine Zae ?_
  refine Zap rfl (fun _=>rfl) rfl rfl rfl ?_
  refine Zad rfl (hP.mono ?_)
  rintro _ _ _ ⟨rfl,rfl,rfl⟩
  refine Zaa rfl rfl ?_
  iterate 2 refine Zac ?_
  refine Zad rfl (hZ.mono ?_)
  rintro _ _ _ ⟨rfl,rfl,rfl⟩
  refine Zaa rfl rfl ?_
  refine Zac ?_
  refine Zad rfl (Xaa I ?_)
  refine Zaa rfl rfl ?_
  refine Zac ?_
  refine Zad rfl (Xaa J ?_)
  refine Zaa rfl rfl ?_
  refine Zac ?_
  refine ZbB ?_
  iterate 2 refine Zac ?_
  refine Zaf ?_
  exact⟨rfl,rfl⟩
end Go.Proofs.YtapbiodcncnnfaaGreatDoor

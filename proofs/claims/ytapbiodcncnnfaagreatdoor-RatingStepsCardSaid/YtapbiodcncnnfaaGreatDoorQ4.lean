/- nat.Gcd, for a seat without the other functions of package nat. -/
import Derived.Test.YtapbiodcncnnfaaGreatDoorU3
set_option linter.all false
set_option maxHeartbeats 8000000
set_option maxRecDepth 100000
namespace Go.Proofs.YtapbiodcncnnfaaGreatDoor
open Go.Am Go.Tx Dv Go.Lib
abbrev rs (x:List UInt8×Int):SV:= .tup [.v .s x.1, .v (.i .i64) x.2]
def ZxO (a b:List UInt8) (x:List UInt8×Int):List UInt8×Int:=match decide (ZjA a b=0)with
 |true=>x
 |false=>([],ZjA a b)
theorem ZsI (a b:List UInt8) (C:a.length≤9223372036854775806) (I:b.length≤9223372036854775806):(ZjA a b=0∧PureOK Tryz.prog Zao 99 [.v .s a, .v .s b] (fun V=>V= .tup [IS (dec a:Nat),IS (dec b:Nat), .v (.i .i64) (0:Int)]))∨
 (ZjA a b≠0∧PureOK Tryz.prog Zao 99 [.v .s a, .v .s b] (fun V=>V= .tup [.agg [.v .b false, .nils], .agg [.v .b false, .nils], .v (.i .i64) (ZjA a b)])):=by
 have h:=ZA8 a b C I
 cases j:decide (ZjA a b=0)with
 |true=>
  refine .inl ⟨of_decide_eq_true j,h.mono ?_⟩
  rintro V rfl
  simp only[Zyq,j]
 |false=>
  refine .inr ⟨of_decide_eq_false j,h.mono ?_⟩
  rintro V rfl
  simp only[Zyq,j]
theorem Zww {a:List UInt8} (h:ZaE a=0):ln (dec a:Nat)≤2000:=by
 rw[ln,XaV]
 exact XaM (Zwn (Zbg h).1.2.1) (Zbg h).2
theorem ZkJ {a:List UInt8} (h:ZaE a=0):dec a<10^2000:=ZyI (m:=2000) (ZbI (Zbg h).1.2.1) (Zbg h).2
theorem Zu1 (a b:List UInt8) (C:a.length≤9223372036854775806) (I:b.length≤9223372036854775806):PureOK Tryz.prog Zao 85 [.v .s a, .v .s b] (fun V=>V=rs (ZxO a b (Zt5 (Nat.gcd (dec a) (dec b))))):=by
 refine Zai Zag Tryz.func85 ?_
 rcases ZsI a b C I with⟨hE,J⟩|⟨hE,J⟩
 ·refine J.mono ?_
  rintro _ rfl
  obtain⟨R,U⟩:=Zs9 hE
  have la:=Zww R
  have lb:=Zww U
  have da:=ZkJ R
  have db:=ZkJ U
  have j:decide (ZjA a b=0)=true:=decide_eq_true hE
  refine Xaa rfl ?_
  refine Xaa rfl ?_
  refine Xaa (fun h=>absurd h (by decide)) (fun _=> ?_)
  refine Xaa rfl ?_
  refine Xaa rfl ?_
  refine(ZBb (dec a:Nat) (dec b:Nat) (by omega) (by omega)).mono ?_
  rintro _ rfl
  have ht:=Zzr (Nat.gcd (dec a) (dec b))
  refine ht.mono ?_
  rintro _ rfl
  simp only[ZxO,j]
  rfl
 ·refine J.mono ?_
  rintro _ rfl
  have j:decide (ZjA a b=0)=false:=decide_eq_false hE
  refine Xaa rfl ?_
  refine Xaa rfl ?_
  have hn:(!decide (ZjA a b=0))=true:=by rw[j];rfl
  refine Xaa (fun _=> ?_) (fun h=>(nf hn h).elim)
  show _=rs (ZxO a b (Zt5 (Nat.gcd (dec a) (dec b))))
  simp only[ZxO,j]
theorem ZuR (a:List UInt8):Zm5 a [45]=ZkV a:=by
 cases a with
 |nil=>rfl
 |cons b l=>
  show(decide (((1:Nat):Int)≤((b::l).length:Int))&&((b::l).take 1==[45]))=(some b==some 45)
  rw[decide_eq_true (by simp only[Xap];omega),Bool.true_and]
  show([b]==[45])=_
  rw[Xbh]
  simp
theorem Zzk (a:List UInt8):PureOK Tryz.prog Zao 69 [.v .s a, .v .s [45]] (fun V=>V= .v .s (ZgC a)):=by
 refine(Zhv a [45]).mono ?_
 rintro _ rfl
 rw[ZuR,ZgC]
 cases ZkV a<;>rfl
theorem Zyv (m n B:Nat) (hm:m<B) (j:n<B):Nat.gcd m n<B:=by
 rcases Nat.eq_zero_or_pos n with h|h
 ·subst h;rw[Nat.gcd_zero_right];exact hm
 ·exact Nat.lt_of_le_of_lt (Nat.gcd_le_right m h) j
theorem Zzh {n d:List UInt8} (h:PureOK Tryz.prog Zao 85 [.v .s n, .v .s d] (fun V=>V=rs (ZxO n d (Zt5 (Nat.gcd (dec n) (dec d)))))) (j:ZaE n=0) (z2:ZaE d=0):PureOK Tryz.prog Zao 85 [.v .s n, .v .s d] (fun V=>V=rs (decDigits (Nat.gcd (dec n) (dec d)),0)):=by
 have hE:ZjA n d=0:=by simp only[ZjA,j,decide_true,z2]
 have e:ZxO n d (Zt5 (Nat.gcd (dec n) (dec d)))=(decDigits (Nat.gcd (dec n) (dec d)),0):=by
  unfold ZxO
  rw[decide_eq_true hE,Zp3 (Zyv _ _ _ (ZkJ j) (ZkJ z2))]
 rw[e]at h
 exact h
theorem Zud (a:List UInt8) (hl:a.length≤9223372036854775806):PureOK Tryz.prog Zao 66 [.v .s a] (fun V=>V= .v (.i .i64) (Zb3 a)):=by
 refine Zai Zag Tryz.func66 ?_
 have hT:=Zzk a
 obtain⟨al,aa⟩:=Ztk a
 obtain⟨af,ag⟩:=ZrB (ZgC a) 47
 have hC:=Zzl (ZgC a) 47 (by omega)
 have hP:=ZhK a
 have j:ZvX a=(rIs a&&(decide (dec (ZnL a)=0)||(decide (dec (ZnL a)=1)|| !decide (Nat.gcd (dec (Zhe a)) (dec (ZnL a))=1)))):=rfl
 have ab:rE2 a=match rIs a with|true=>ZaE (ZnL a)|false=>0:=rfl
 have e1:Zhe a=(ZdA (ZgC a) 47).1:=rfl
 have e2:ZnL a=(ZdA (ZgC a) 47).2.1:=rfl
 have e3:rIs a=(ZdA (ZgC a) 47).2.2:=rfl
 obtain⟨s,hs⟩: ∃s,ZgC a=s:=⟨_,rfl⟩
 obtain⟨⟨n,d,is⟩,ai⟩: ∃x,ZdA (ZgC a) 47=x:=⟨_,rfl⟩
 rw[ai]at hC e1 e2 e3 af ag
 rw[hs]at hC hT al aa af ag
 simp only at e1 e2 e3 af ag
 rw[e1]at hP j
 rw[e2]at j ab
 rw[e3]at j ab
 have an:=Zfi n (by omega)
 have aj:=Zfi d (by omega)
 have ao:=Zu1 n d (by omega) (by omega)
 obtain⟨m,hm⟩: ∃m,ZkV a=m:=⟨_,rfl⟩
 rw[hm]at aa hP
 refine hT.mono ?_
 rintro _ rfl
 refine hC.mono ?_
 rintro _ rfl
 refine an.mono ?_
 rintro _ rfl
 obtain⟨E1,ad⟩: ∃x,ZaE n=x:=⟨_,rfl⟩
 cases is with
 |false=>
  simp only[XbD]at j ab
  rw[j,ab,ad]at hP
  rw[hP,ad]
  refine brF rfl ?_
  cases C:decide (E1=5)with
  |true=>
   refine Zae ?_
   iterate 3 refine Zac ?_
   refine Zah C ?_
   refine Zah C ?_
   refine Zat C ?_
   refine Zac ?_
   refine Zah rfl ?_
   refine Zah rfl ?_
   refine Zah rfl ?_
   refine Zcs ?_
   refine Zcs ?_
   refine Zcs ?_
   refine Zcs ?_
   refine Zcs ?_
   refine Zah rfl ?_
   refine Zat rfl ?_
   refine Zac ?_
   refine Zaf ?_
   refine brT rfl ?_
   simp only[Zhc,C,Bool.true_or]
   rfl
  |false=>
  cases I:n==[48]
  rotate_left 1
  refine Zae ?_
  iterate 3 refine Zac ?_
  refine Zab C ?_
  refine Zab C ?_
  refine Zal C ?_
  refine Zac ?_
  refine Zab rfl ?_
  refine Zab rfl ?_
  refine Zab rfl ?_
  refine Zab I ?_
  refine Zab I ?_
  refine Zab I ?_
  refine Zab I ?_
  refine Zab I ?_
  refine Za0 rfl rfl rfl rfl rfl rfl I rfl rfl rfl ?_
  refine Zal rfl ?_
  refine Zac ?_
  refine Zaf ?_
  refine Xaa (fun h=> ?_) (fun h=> ?_)
  ·have R:m=true:=aa.symm.trans h
   subst R
   simp only[Zhc,C]
   rfl
  have R:(true&&m)=false:=aa.symm.trans h
  rotate_left 1
  refine Zae ?_
  iterate 3 refine Zac ?_
  refine Zab C ?_
  refine Zab C ?_
  refine Zal C ?_
  refine Zac ?_
  refine Zab rfl ?_
  refine Zab rfl ?_
  refine Zab rfl ?_
  refine Zah I ?_
  refine Zah I ?_
  refine Zah I ?_
  refine Zah I ?_
  refine Zah I ?_
  refine Za9 rfl rfl rfl rfl rfl rfl I rfl rfl rfl ?_
  refine Zal rfl ?_
  refine Zac ?_
  refine Zaf ?_
  refine brF rfl ?_
  have R:(false&&m)=false:=rfl
  all_goals
   cases U:decide (E1=0)with
   |false=>
    have J:(!decide (E1=0))=true:=by rw[U];rfl
    refine Zae ?_
    iterate 3 refine Zac ?_
    refine Zah J ?_
    refine Zah J ?_
    refine Zat J ?_
    refine Zac ?_
    refine Zaf ?_
    refine brT J ?_
    simp only[Zhc,C,U,R]
    rfl
   |true=>
    have J:(!decide (E1=0))=false:=by rw[U];rfl
    refine Zae ?_
    iterate 3 refine Zac ?_
    refine Zab J ?_
    refine Zab J ?_
    refine Zal J ?_
    refine Zac ?_
    refine Zaf ?_
    refine brF rfl ?_
    refine brF rfl ?_
    simp only[Zhc,C,U,R]
    rfl
 |true=>
  simp only[Bool.true_and]at j ab
  obtain⟨E2,ae⟩: ∃x,ZaE d=x:=⟨_,rfl⟩
  obtain⟨B,hB⟩: ∃x,ZvX a=x:=⟨_,rfl⟩
  rw[hB]at j
  rw[hB,ab,ad,ae]at hP
  rw[ae]at aj
  rw[hP,ad]
  refine brT rfl ?_
  refine aj.mono ?_
  rintro _ rfl
  cases C:decide (E1=5)with
  |true=>
   refine Zae ?_
   iterate 3 refine Zac ?_
   refine Zah C ?_
   refine Zah C ?_
   refine Zat C ?_
   refine Zac ?_
   refine Zah rfl ?_
   refine Zah rfl ?_
   refine Zah rfl ?_
   refine Zcs ?_
   refine Zcs ?_
   refine Zcs ?_
   refine Zcs ?_
   refine Zcs ?_
   refine Zah rfl ?_
   refine Zat rfl ?_
   refine Zac ?_
   refine Zaf ?_
   refine brT rfl ?_
   simp only[Zhc,C,Bool.true_or]
   rfl
  |false=>
  cases b2:decide (E2=5)with
  |true=>
   refine Zae ?_
   iterate 3 refine Zac ?_
   refine Zab C ?_
   refine Zab C ?_
   refine Zal C ?_
   refine Zac ?_
   refine Zah b2 ?_
   refine Zah b2 ?_
   refine Zah b2 ?_
   refine Zcs ?_
   refine Zcs ?_
   refine Zcs ?_
   refine Zcs ?_
   refine Zcs ?_
   refine Zah b2 ?_
   refine Zat b2 ?_
   refine Zac ?_
   refine Zaf ?_
   refine brT b2 ?_
   simp only[Zhc,C,b2]
   rfl
  |false=>
  cases I:n==[48]
  rotate_left 1
  refine Zae ?_
  iterate 3 refine Zac ?_
  refine Zab C ?_
  refine Zab C ?_
  refine Zal C ?_
  refine Zac ?_
  refine Zab b2 ?_
  refine Zab b2 ?_
  refine Zab b2 ?_
  refine Zab I ?_
  refine Zab I ?_
  refine Zab I ?_
  refine Zab I ?_
  refine Zab I ?_
  refine Za0 rfl rfl rfl b2 rfl rfl I rfl rfl rfl ?_
  refine Zal b2 ?_
  refine Zac ?_
  refine Zaf ?_
  refine Xaa (fun h=> ?_) (fun h=> ?_)
  ·have R:m=true:=aa.symm.trans h
   subst R
   simp only[Zhc,C,b2]
   rfl
  have R:(true&&m)=false:=aa.symm.trans h
  rotate_left 1
  refine Zae ?_
  iterate 3 refine Zac ?_
  refine Zab C ?_
  refine Zab C ?_
  refine Zal C ?_
  refine Zac ?_
  refine Zab b2 ?_
  refine Zab b2 ?_
  refine Zab b2 ?_
  refine Zah I ?_
  refine Zah I ?_
  refine Zah I ?_
  refine Zah I ?_
  refine Zah I ?_
  refine Za9 rfl rfl rfl b2 rfl rfl I rfl rfl rfl ?_
  refine Zal b2 ?_
  refine Zac ?_
  refine Zaf ?_
  refine brF I ?_
  have R:(false&&m)=false:=rfl
  all_goals
   cases U:decide (E1=0)with
   |false=>
    have J:(!decide (E1=0))=true:=by rw[U];rfl
    refine Zae ?_
    iterate 3 refine Zac ?_
    refine Zah J ?_
    refine Zah J ?_
    refine Zat J ?_
    refine Zac ?_
    refine Zaf ?_
    refine brT J ?_
    simp only[Zhc,C,b2,U,R]
    rfl
   |true=>
   have J:(!decide (E1=0))=false:=by rw[U];rfl
   cases c0:decide (E2=0)with
   |false=>
    have ah:(!decide (E2=0))=true:=by rw[c0];rfl
    refine Zae ?_
    iterate 3 refine Zac ?_
    refine Zab J ?_
    refine Zab J ?_
    refine Zal J ?_
    refine Zac ?_
    refine Zaf ?_
    refine brT ah ?_
    simp only[Zhc,C,b2,U,c0,R]
    rfl
   |true=>
    have ah:(!decide (E2=0))=false:=by rw[c0];rfl
    refine Zae ?_
    iterate 3 refine Zac ?_
    refine Zab J ?_
    refine Zab J ?_
    refine Zal J ?_
    refine Zac ?_
    refine Zaf ?_
    refine brF ah ?_
    refine brT rfl ?_
    have z1:ZaE n=0:=ad.trans (of_decide_eq_true U)
    have z2:ZaE d=0:=ae.trans (of_decide_eq_true c0)
    have ak:=Zzh ao z1 z2
    obtain⟨cd,_⟩:=Zbg z2
    have q1:=ZBg cd
    have q2:=ZzB cd
    have q3:=ZzB (Zbi (Nat.gcd (dec n) (dec d)))
    rw[Zay]at q3
    obtain⟨g,hg⟩: ∃x,decDigits (Nat.gcd (dec n) (dec d))=x:=⟨_,rfl⟩
    rw[hg]at q3 ak
    rw[←q1,←q2,←q3]at j
    refine ak.mono ?_
    rintro _ rfl
    cases d1:d==[48]with
    |true=>
     refine Zae ?_
     iterate 3 refine Zac ?_
     refine Zah d1 ?_
     refine Zah d1 ?_
     refine Zat d1 ?_
     refine Zac ?_
     refine Zah rfl ?_
     refine Zah rfl ?_
     refine Zat rfl ?_
     refine Zaf ?_
     refine brT rfl ?_
     rw[d1,Bool.true_or]at j
     simp only[Zhc,C,b2,U,c0,R,j]
     rfl
    |false=>
    cases d2:d==[49]with
    |true=>
     refine Zae ?_
     iterate 3 refine Zac ?_
     refine Zab d1 ?_
     refine Zab d1 ?_
     refine Zal d1 ?_
     refine Zac ?_
     refine Zah d2 ?_
     refine Zah d2 ?_
     refine Zat d2 ?_
     refine Zaf ?_
     refine brT d2 ?_
     rw[d1,d2,Bool.false_or,Bool.true_or]at j
     simp only[Zhc,C,b2,U,c0,R,j]
     rfl
    |false=>
     refine Zae ?_
     iterate 3 refine Zac ?_
     refine Zab d1 ?_
     refine Zab d1 ?_
     refine Zal d1 ?_
     refine Zac ?_
     refine Zab d2 ?_
     refine Zab d2 ?_
     refine Zal d2 ?_
     refine Zaf ?_
     rw[d1,d2,Bool.false_or,Bool.false_or]at j
     refine Xaa (fun h=> ?_) (fun h=> ?_)
     ·have h2:(!(g==[49]))=true:=h
      simp only[Zhc,C,b2,U,c0,R,j,h2]
      rfl
     ·have h2:(!(g==[49]))=false:=h
      simp only[Zhc,C,b2,U,c0,R,j,h2]
      rfl
theorem ZqB (l:List (List UInt8)) (hl:l.length≤1000000) (hs: ∀a∈l,a.length≤9223372036854775806):PureOK Tryz.prog Zao 48 [.v (.l .s) l] (fun V=>V= .v (.i .i64) (ZeK l)):=by
 refine Zai Zag Tryz.func48 ?_
 refine Zaw Zag rfl (fun(i:Nat)=> [(0, .v (.l .s) l),(6, .v (.l .s) l),(7, .v (.i .i64) (l.length:Int)),(8, .v (.i .i64) (i:Int))]) (fun _=> [])
  (fun i=>i≤l.length∧ZeK (l.drop i)=ZeK l) (fun i=>l.length-i) ?_ 0 ?_ ?_
 ·rintro i ⟨hi,he⟩
  refine Xaa (fun h=> ?_) (fun h=> ?_)
  ·have j:i<l.length:=by have h':(i:Int)<(l.length:Int):=of_decide_eq_true h;omega
   obtain⟨x,J⟩: ∃x,l[i]=x:=⟨_,rfl⟩
   have gx:l[(i:Int).toNat]? =some x:=by rw[Xad,Xac j,J]
   have R:=hs x (J▸Xax j)
   rw[Xaz j,J,ZeK]at he
   refine⟨x,Xaj i,gx, ?_⟩
   refine(Zud x R).mono ?_
   rintro _ rfl
   refine Xaa (fun U=> ?_) (fun U=> ?_)
   ·have C:(!decide (Zb3 x=0))=true:=U
    have I:decide (Zb3 x=0)=false:=by cases I:decide (Zb3 x=0)<;>simp[I]at C⊢
    rw[I]at he
    exact congrArg (SV.v (.i .i64)) he
   ·have C:(!decide (Zb3 x=0))=false:=U
    have I:decide (Zb3 x=0)=true:=by cases I:decide (Zb3 x=0)<;>simp[I]at C⊢
    rw[I]at he
    have wi:IntKind.i64.wrap ((i:Int)+1)=((i+1:Nat):Int):=Zan (by omega) (by omega)
    refine⟨i+1,⟨j,he⟩,by show l.length-(i+1)<l.length-i;omega, ?_⟩
    refine Zas rfl rfl ?_ ?_
    ·exact⟨rfl,rfl,rfl,wi.symm,trivial⟩
    ·exact trivial
  ·have aa:i=l.length:=by have h': ¬ (i:Int)<(l.length:Int):=of_decide_eq_false h;omega
   rw[XbJ (by omega)]at he
   exact congrArg (SV.v (.i .i64)) he
 ·exact⟨Xao _,rfl⟩
 ·refine Zas rfl rfl ?_ ?_
  ·exact⟨rfl,rfl,rfl,rfl,trivial⟩
  ·exact trivial
theorem Zpp (m:Bool) (n:Nat) (j:(decDigits n).length≤300000):PureOK Tryz.prog Zao 50 [.v .s (mns m (decDigits n))] (fun V=>V=IS (sg m (n:Int))):=by
 have h:=Zty m (decDigits n) (ZaT n) j
 rw[Zay]at h
 have e:ZtE m (decDigits n)=mns m (decDigits n):=by cases m<;>rfl
 rw[e]at h
 exact h
theorem Zyb (q:Rat) (h:Zkj q=true):PureOK Tryz.prog Zao 25 [.v .s (Zc0 q)] (fun V=>V=QR q):=by
 obtain⟨J,U⟩:=Zdw.1 h
 have hl:=Zxs h
 have C:=Zzl (Zc0 q) 47 (by omega)
 have j:ZdA (Zc0 q) 47=match decide (q.den=1)with
  |true=>(mns (decide (q.num<0)) (decDigits q.num.natAbs),[],false)
  |false=>(mns (decide (q.num<0)) (decDigits q.num.natAbs),decDigits q.den,true):=Zye _ _ _
 have hN:=Zpp (decide (q.num<0)) q.num.natAbs (by omega)
 rw[Zo7]at hN
 have R:=Zpp false q.den (by omega)
 refine Zai Zag Tryz.func25 ?_
 cases I:decide (q.den=1)with
 |true=>
  rw[I]at j
  simp only at j
  rw[j]at C
  have J:q.den=1:=of_decide_eq_true I
  refine C.mono ?_
  rintro _ rfl
  refine Xaa (fun _=> ?_) (fun h=>nomatch h)
  refine hN.mono ?_
  rintro _ rfl
  refine(ZzC 1 (by decide) (by decide)).mono ?_
  rintro _ rfl
  refine Xaa rfl ?_
  refine Xaa rfl ?_
  show QS q.num ((1:Nat):Int)=QS q.num (q.den:Int)
  rw[J]
 |false=>
  rw[I]at j
  simp only at j
  rw[j]at C
  refine C.mono ?_
  rintro _ rfl
  refine Xaa (fun h=>nomatch h) (fun _=> ?_)
  refine hN.mono ?_
  rintro _ rfl
  refine R.mono ?_
  rintro _ rfl
  refine Xaa rfl ?_
  refine Xaa rfl ?_
  rfl
end Go.Proofs.YtapbiodcncnnfaaGreatDoor
namespace Dv
open Go Go.Lib
def dv:List Int→Int
 | []=>0
 |d::l=>d+10*dv l
theorem Zkn: ∀ (l:List Int) (d:Int),dv (l++ [d])=dv l+10^l.length*d
 | [],d=>by simp[dv]
 |x::l,d=>by
  simp only[XbH,dv,Zkn l d,Xap,Xba]
  grind
def D9 (l:List Int):Prop:= ∀d∈l,0≤d∧d≤9
theorem ZmK: ∀ {l:List Int},(∀d∈l,0≤d)→0≤dv l
 | [],_=>XaT _
 |x::l,h=>by
  have C:=h x Xah
  have I:=ZmK (l:=l) fun y j=>h y (Xai _ j)
  simp only[dv];omega
theorem Zzb: ∀ {l:List Int},D9 l→dv l<10^l.length
 | [],_=>by simp[dv]
 |x::l,h=>by
  have C:=h x Xah
  have I:=Zzb (l:=l) fun y j=>h y (Xai _ j)
  simp only[dv,Xap,Xba];omega
theorem ZwU {l:List Int} {i:Nat} (h:i<l.length):dv (l.take (i+1))=dv (l.take i)+10^i*l[i]:=by
 rw[XaQ h,Zkn,Xas,XaL (Nat.le_of_lt h)]
theorem Zpl: ∀ {l:List Int} {i:Nat} {x:Int} (h:i<l.length),dv (l.set i x)=dv l+10^i*(x-l[i])
 | [],i,x,h=>by simp at h
 |y::l,0,x,_=>by simp only[List.set_cons_zero,dv,List.getElem_cons_zero,Int.pow_zero];omega
 |y::l,i+1,x,h=>by
  have j:=Zpl (l:=l) (i:=i) (x:=x) (by simpa using h)
  simp only[List.set_cons_succ,dv,List.getElem_cons_succ,j,Xba]
  grind
def ZhX (l:List Int):List UInt8:=l.reverse.map fun d=>UInt8.ofNat (48+d).toNat
theorem ZmM: ∀ {l:List Int},D9 l→Dg (ZhX l)∧((dec (ZhX l):Nat):Int)=dv l∧(ZhX l).length=l.length
 | [],_=>⟨fun c j=>by simp[ZhX]at j,rfl,rfl⟩
 |d::l,h=>by
  have h1:=h d Xah
  obtain⟨I,J,R⟩:=ZmM (l:=l) fun y U=>h y (Xai _ U)
  have e:ZhX (d::l)=ZhX l++ [UInt8.ofNat (48+d).toNat]:=by simp[ZhX]
  have e2:(48+d).toNat=48+d.toNat:=by omega
  have C:(UInt8.ofNat (48+d).toNat).toNat=48+d.toNat:=by rw[e2];exact Zdu (by omega)
  rw[e]
  refine⟨I.app ?_, ?_,by simp[R]⟩
  ·intro c j
   rw[Xat.1 j,C];omega
  ·rw[Zfd,C,Xa7,XaX,J]
   simp only[dv]
   omega
theorem Zs0 {s:List UInt8} (h:Dg s) {k:Nat} (U:k<s.length):(s[s.length-1-k]'(by omega)).toNat-48=dec s/10^k % 10:=by
 have e:s=s.take (s.length-1-k)++(s[s.length-1-k]'(by omega)::s.drop (s.length-1-k+1)):=by
  rw[←Xaz,XaR]
 have J:Dg (s.drop (s.length-1-k+1)):=fun c C=>h c (Xbl C)
 have I:(s.drop (s.length-1-k+1)).length=k:=by rw[XaZ];omega
 have j:=ZbI J
 rw[I]at j
 have C:=h _ (Xax (show s.length-1-k<s.length by omega))
 have R:dec s=(dec (s.take (s.length-1-k))*10+((s[s.length-1-k]'(by omega)).toNat-48))*10^k+dec (s.drop (s.length-1-k+1)):=by
  conv=>lhs;rw[e]
  rw[Zk3,ZcF,Xap,I,Nat.pow_succ]
  grind
 rw[R,Nat.add_comm,Nat.add_mul_div_right _ _ (Nat.pow_pos (by decide)),Nat.div_eq_of_lt j,Xaq]
 omega
theorem Zbx {s:List UInt8} (h:Dg s) {k:Nat} (j:s.length≤k):dec s/10^k % 10=0:=by
 have C:=ZbI h
 have I:=XaW (show 0<10 by decide) j
 rw[Nat.div_eq_of_lt (by omega)]
theorem ZcB (n k:Nat):n % 10^(k+1)=n % 10^k+10^k*(n/10^k % 10):=by
 rw[Nat.pow_succ,Nat.mod_mul]
end Dv
namespace Go.Proofs.YtapbiodcncnnfaaGreatDoor
open Go.Am Go.Tx Dv Go.Lib
theorem Zg0 (s:List UInt8) (hl:s.length≤9223372036854775806):PureOK Tryz.prog Zao 76 [.v .s s] (fun V=>V= .v (.i .i64) (ZaE s)):=by
 refine Zai Zag Tryz.func76 ?_
 refine Xaa (fun h=> ?_) (fun h=> ?_)
 ·have h':(s.length:Int)=0:=of_decide_eq_true h
  have he:s=[]:=XaY.1 (by omega)
  subst he
  rfl
 have ae:s≠ []:=by
  rintro rfl
  exact absurd rfl (of_decide_eq_false h: ¬ (([]:List UInt8).length:Int)=0)
 refine Zaw Zag rfl (fun(i:Nat)=> [(0, .v .s s),(3, .v (.i .i64) (i:Int))]) (fun _=> [])
  (fun i=>i≤s.length∧Dg (s.take i)) (fun i=>s.length-i) ?_ 0 ?_ ?_
 ·rintro i ⟨hi,hd⟩
  refine Xaa (fun h=> ?_) (fun h=> ?_)
  ·have C:i<s.length:=by have h':(i:Int)<(s.length:Int):=of_decide_eq_true h;omega
   obtain⟨c,hc⟩: ∃c,s[i]=c:=⟨_,rfl⟩
   have hx:s[(i:Int).toNat]? =some c:=by rw[Xad,Xac C,hc]
   have bad: ¬ (48≤c.toNat∧c.toNat≤57)→ZaE s=5:=by
    intro h
    have:cnB s=false:=by
     cases hb:cnB s with
     |false=>rfl
     |true=>exact absurd (hc▸(ZiP.1 hb).2.1 _ (Xax C)) h
    simp only[ZaE,this]
   refine ZaX (ZeR rfl (ZaX (Zbe rfl ?_)))
   iterate 2 refine Zac ?_
   refine Zbb (x:=c) rfl (fun _=>rfl) (Xaj i) hx rfl rfl ?_
   iterate 2 refine Zac ?_
   cases h1:decide (((c.toNat:Nat):Int)<48)with
   |true=>
    have ah:((c.toNat:Nat):Int)<48:=of_decide_eq_true h1
    iterate 4 refine Zah rfl ?_
    refine Zat rfl ?_
    refine Zbr ?_
    refine brT rfl ?_
    exact congrArg (SV.v (.i .i64)) (bad (by omega)).symm
   |false=>
    have ah: ¬ ((c.toNat:Nat):Int)<48:=of_decide_eq_false h1
    iterate 2 refine Zab rfl ?_
    refine ZbZ (x:=c) rfl rfl rfl rfl (fun _=>rfl) (Xaj i) hx rfl rfl ?_
    refine Zab rfl ?_
    refine Zal rfl ?_
    refine Zbr ?_
    refine Xaa (fun R=> ?_) (fun R=> ?_)
    ·have aa:(57:Int)<((c.toNat:Nat):Int):=of_decide_eq_true R
     exact congrArg (SV.v (.i .i64)) (bad (by omega)).symm
    ·have aa: ¬ (57:Int)<((c.toNat:Nat):Int):=of_decide_eq_false R
     have wi:IntKind.i64.wrap ((i:Int)+1)=((i+1:Nat):Int):=Zan (by omega) (by omega)
     refine⟨i+1,⟨C, ?_⟩,by show s.length-(i+1)<s.length-i;omega, ?_⟩
     ·rw[XaQ C]
      refine hd.app ?_
      intro x hx
      rw[Xat.1 hx,hc];omega
     ·refine Zas rfl rfl ?_ ?_
      ·exact⟨rfl,wi.symm,trivial⟩
      ·exact trivial
  ·have he:i=s.length:=by have h': ¬ (i:Int)<(s.length:Int):=of_decide_eq_false h;omega
   subst he
   rw[XaC]at hd
   have af:=Zks.2 hd
   have ag:s.isEmpty=false:=by simpa using ae
   have ab:cnB s=true→(2000:Int)<(s.length:Int)→ZaE s=2:=fun h1 R=>by
    have hb:Nat.ble s.length 2000=false:=by
     cases hb:Nat.ble s.length 2000 with
     |false=>rfl
     |true=>have:=Xal hb;omega
    simp only[ZaE,h1,hb]
   have U:cnB s=true→ ¬ (2000:Int)<(s.length:Int)→ZaE s=0:=fun h1 R=>by
    simp only[ZaE,h1,Xbj (show s.length≤2000 by omega)]
   have bad:cnB s=false→ZaE s=5:=fun h=>by simp only[ZaE,h]
   refine ZaX (ZaX (Zbe rfl ?_))
   iterate 4 refine Zac ?_
   cases R:decide ((1:Int)<(s.length:Int))with
   |true=>
    have aa:(1:Int)<(s.length:Int):=of_decide_eq_true R
    obtain⟨c,r,hs⟩: ∃c r,s=c::r:=by
     cases s with
     |nil=>exact absurd rfl ae
     |cons c r=>exact⟨c,r,rfl⟩
    have ad:decide (1<s.length)=true:=decide_eq_true (by omega)
    have j:cnB s= !decide (((c.toNat:Nat):Int)=48):=by
     simp only[cnB,af,ag,ad,Bool.true_and,XbC]
     congr 1
     rw[hs,List.head?_cons]
     by_cases h:c=48
     ·subst h;rfl
     ·have h3: ¬ ((c.toNat:Nat):Int)=48:=fun h4=>h (UInt8.toNat_inj.1 (by show c.toNat=48;omega))
      rw[decide_eq_false h3]
      simp[h]
    refine Zab rfl ?_
    refine ZbZ (x:=c) rfl rfl rfl rfl (fun _=>rfl) (XaT 0) (by rw[hs];rfl) rfl rfl ?_
    refine Zab rfl ?_
    refine Zat rfl ?_
    refine Zbr ?_
    refine Xaa (fun h3=> ?_) (fun h3=> ?_)
    ·have I:decide (((c.toNat:Nat):Int)=48)=true:=h3
     exact congrArg (SV.v (.i .i64)) (bad (by rw[j,I];rfl)).symm
    ·have I:decide (((c.toNat:Nat):Int)=48)=false:=h3
     refine Xaa (fun h4=> ?_) (fun h4=> ?_)
     ·have J:(2000:Int)<(s.length:Int):=of_decide_eq_true h4
      exact congrArg (SV.v (.i .i64)) (ab (by rw[j,I];rfl) J).symm
     ·have J: ¬ (2000:Int)<(s.length:Int):=of_decide_eq_false h4
      exact congrArg (SV.v (.i .i64)) (U (by rw[j,I];rfl) J).symm
   |false=>
    have aa: ¬ (1:Int)<(s.length:Int):=of_decide_eq_false R
    have ad:decide (1<s.length)=false:=decide_eq_false (by omega)
    have j:cnB s=true:=by simp only[cnB,af,ag,ad,Bool.true_and,XbD,XbC,Bool.and_self]
    iterate 3 refine Zah rfl ?_
    refine Zal rfl ?_
    refine Zbr ?_
    refine brF rfl ?_
    refine Xaa (fun h4=> ?_) (fun h4=> ?_)
    ·have J:(2000:Int)<(s.length:Int):=of_decide_eq_true h4
     omega
    ·exact congrArg (SV.v (.i .i64)) (U j (by omega)).symm
 ·exact⟨Xao _,fun c hc=>by simp at hc⟩
 ·refine Zas rfl rfl ?_ ?_
  ·exact⟨rfl,rfl,trivial⟩
  ·exact trivial
theorem ZpC (a b:List UInt8) (J:Cn a) (R:Cn b) (aa:a.length≤9223372036854775806) (ab:b.length≤9223372036854775806):PureOK Tryz.prog Zao 97 [.v .s a, .v .s b] (fun V=>V= .v (.i .i64) ((dec a:Int)-(dec b:Int)).sign):=by
 refine Zai Zag Tryz.func97 ?_
 have neg:dec a<dec b→((dec a:Int)-(dec b:Int)).sign= -1:=fun h=>Int.sign_eq_neg_one_of_neg (by omega)
 have pos:dec b<dec a→((dec a:Int)-(dec b:Int)).sign=1:=fun h=>Int.sign_eq_one_of_pos (by omega)
 refine Xaa (fun h=> ?_) (fun h=> ?_)
 ·have j:(a.length:Int)<(b.length:Int):=of_decide_eq_true h
  exact congrArg (SV.v (.i .i64)) (neg (Zix J R (by omega))).symm
 have h1: ¬ (a.length:Int)<(b.length:Int):=of_decide_eq_false h
 refine Xaa (fun h=> ?_) (fun h=> ?_)
 ·have j:(b.length:Int)<(a.length:Int):=of_decide_eq_true h
  exact congrArg (SV.v (.i .i64)) (pos (Zix R J (by omega))).symm
 have h2: ¬ (b.length:Int)<(a.length:Int):=of_decide_eq_false h
 have hl:a.length=b.length:=by omega
 have C:=Zgp J.2.1 R.2.1 hl
 refine Xaa (fun h=> ?_) (fun h=> ?_)
 ·have j:Op.bytesLess a b=true:=h
  exact congrArg (SV.v (.i .i64)) (neg (C.1 j)).symm
 have h3: ¬dec a<dec b:=fun h4=>by
  have j:Op.bytesLess a b=false:=h
  rw[C.2 h4]at j;cases j
 have I:Op.bytesLess a b=false:=h
 refine Xaa (fun h=> ?_) (fun h=> ?_)
 ·have j:(!(Op.bytesLess a b||a==b))=true:=h
  rw[I,Bool.false_or]at j
  have U:a≠b:=by simpa using j
  have:dec a≠dec b:=fun e=>U (J.inj R e)
  exact congrArg (SV.v (.i .i64)) (pos (by omega)).symm
 ·have j:(!(Op.bytesLess a b||a==b))=false:=h
  rw[I,Bool.false_or]at j
  have he:a=b:=by simpa using j
  subst he
  exact congrArg (SV.v (.i .i64)) (by simp:(0:Int)=((dec a:Int)-(dec a:Int)).sign)
theorem ZdQ (s:List UInt8) (k:Nat) (j:Dg s) (hl:s.length≤1000000000) (hk:k≤1000000000):PureOK Tryz.prog Zao 113 [.v .s s, .v (.i .i64) (k:Int)] (fun V=>V= .v (.i .i64) ((dec s/10^k % 10:Nat):Int)):=by
 refine Zai Zag Tryz.func113 ?_
 refine Xaa (fun h=> ?_) (fun h=> ?_)
 ·have C:k<s.length:=by have h':(k:Int)<(s.length:Int):=of_decide_eq_true h;omega
  have hi:s.length-1-k<s.length:=by omega
  obtain⟨c,R⟩: ∃c,s[s.length-1-k]=c:=⟨_,rfl⟩
  have U:IntKind.i64.wrap (IntKind.i64.wrap ((s.length:Int)-1)-(k:Int))=((s.length-1-k:Nat):Int):=by rw[Zan (x:=(s.length:Int)-1) (by omega) (by omega),Zan (by omega) (by omega)];omega
  have I:=j _ (Xax hi)
  have hv:=Zs0 j C
  rw[R]at I hv
  have j1:=j0 _ _ U (by omega)
  refine⟨c,j1,by rw[U,Xad,Xac hi,R], ?_⟩
  refine congrArg (SV.v (.i .i64)) (?_:IntKind.i64.wrap (IntKind.u8.wrap (((c.toNat:Nat):Int)-48))=_)
  have e2:IntKind.u8.wrap (((c.toNat:Nat):Int)-48)=((c.toNat-48:Nat):Int):=by
   rw[Zem (by omega) (by omega)];omega
  rw[e2,Zan (by omega) (by omega),hv]
 ·have J:s.length≤k:=by have h': ¬ (k:Int)<(s.length:Int):=of_decide_eq_false h;omega
  exact congrArg (SV.v (.i .i64)) (by rw[Zbx j J];rfl)
theorem Zlh (s:List UInt8) (hd:Dg s) (C:s≠ []) (I:s.length≤9223372036854775806):PureOK Tryz.prog Zao 112 [.v .s s] (fun V=>V= .v .s (decDigits (dec s))):=by
 refine Zai Zag Tryz.func112 ?_
 refine Zaw Zag rfl (fun(r:List UInt8)=> [(0, .v .s r)]) (fun _=> [])
  (fun r=>Dg r∧r≠ []∧dec r=dec s∧r.length≤s.length) (fun r=>r.length) ?_ s ?_ ?_
 ·rintro r ⟨J,h2,R,h4⟩
  obtain⟨c,t,rfl⟩: ∃c t,r=c::t:=by
   cases r with
   |nil=>exact absurd rfl h2
   |cons c t=>exact⟨c,t,rfl⟩
  have done:(1<(c::t).length→c≠48)→SV.v .s (c::t)= .v .s (decDigits (dec s)):=fun h=>by
   have j:Cn (c::t):=⟨by simp,J,fun I U=>h I (by simpa using U)⟩
   rw[←R,j.eq]
  refine ZaX (ZaX (Zbe rfl ?_))
  iterate 4 refine Zac ?_
  cases hb:decide ((1:Int)<((c::t).length:Int))with
  |true=>
   have hlen:(1:Int)<((c::t).length:Int):=of_decide_eq_true hb
   refine Zab rfl ?_
   refine ZbZ (x:=c) rfl rfl rfl rfl (fun _=>rfl) (XaT 0) rfl rfl rfl ?_
   refine Zab rfl ?_
   refine Zat rfl ?_
   refine Zbr ?_
   refine Xaa (fun h=> ?_) (fun h=> ?_)
   ·have j:c=48:=UInt8.toNat_inj.1 (by have U:((c.toNat:Nat):Int)=48:=of_decide_eq_true h;show c.toNat=48;omega)
    subst j
    refine Xaa ⟨by decide,Xa6 hlen⟩ ?_
    have ht:t≠ []:=by rintro rfl;simp at hlen
    have et:t=List.drop (Int.toNat 1) (List.take ((48:UInt8)::t).length (48::t)):=by rw[XaC];rfl
    refine⟨t,⟨fun x hx=>J x (Xai _ hx),ht,by rw[←R,ZcF];simp,by have:=h4;simp at this;omega⟩,by show t.length<(48::t).length;simp, ?_⟩
    refine Zas rfl rfl ?_ ?_
    ·exact⟨et,trivial⟩
    ·exact trivial
   ·have j:c≠48:=by
     rintro rfl
     exact absurd rfl (of_decide_eq_false h: ¬ (((48:UInt8).toNat:Nat):Int)=48)
    exact done fun _=>j
  |false=>
   have hlen: ¬ (1:Int)<((c::t).length:Int):=of_decide_eq_false hb
   iterate 3 refine Zah rfl ?_
   refine Zal rfl ?_
   refine Zbr ?_
   refine brF rfl ?_
   exact done fun h=>by omega
 ·exact⟨hd,C,rfl,Xan _⟩
 ·refine Zas rfl rfl ?_ ?_
  ·exact⟨rfl,trivial⟩
  ·exact trivial
theorem ZnY (l:List Int) (hd:D9 l) (hl:l.length≤1000000):PureOK Tryz.prog Zao 114 [.v (.l (.i .i64)) l] (fun V=>V= .v .s (decDigits (dv l).toNat)):=by
 refine Zai Zag Tryz.func114 ?_
 have w2:0≤(l.length:Int)∧(l.length:Int)≤l.length∧(1:Int)*l.length≤281474976710656∧(l.length:Int)<9223372036854775808:=by omega
 have U:l.length=(l.length:Int).toNat:=(Xad _).symm
 refine Xaa w2 ?_
 refine Zaw Zag rfl (fun(t:Nat×List Int)=> [(0, .v (.l (.i .i64)) l),(3, .ref 0 0 l.length none),(9, .v (.l (.i .i64)) l),(10, .v (.i .i64) (l.length:Int)),(11, .v (.i .i64) (t.1:Int))]) (fun t=> [.row (.i .u8) t.2 true])
  (fun t=>t.1≤l.length∧t.2.length=l.length∧t.2.drop (l.length-t.1)=((l.take t.1).reverse.map fun d=>48+d)) (fun t=>l.length-t.1) ?_ (0,List.replicate l.length 0) ?_ ?_
 ·rintro⟨i,b⟩ ⟨hi,I,R⟩
  simp only at hi I R
  refine Xaa (fun h=> ?_) (fun h=> ?_)
  ·have j:i<l.length:=by have h':(i:Int)<(l.length:Int):=of_decide_eq_true h;omega
   have aa:=hd _ (Xax j)
   obtain⟨d,ed⟩: ∃d,l[i]=d:=⟨_,rfl⟩
   rw[ed]at aa
   have e1:IntKind.i64.wrap (IntKind.i64.wrap ((l.length:Int)-1)-(i:Int))=((l.length-1-i:Nat):Int):=by rw[Zan (x:=(l.length:Int)-1) (by omega) (by omega),Zan (by omega) (by omega)];omega
   have hj:l.length-1-i<b.length:=by omega
   have b1:(0:Int)≤IntKind.i64.wrap (IntKind.i64.wrap ((l.length:Int)-1)-(i:Int))∧IntKind.i64.wrap (IntKind.i64.wrap ((l.length:Int)-1)-(i:Int))<(l.length:Int):=by rw[e1];omega
   refine⟨d,Xaj i,by rw[Xad,Xac j,ed], ?_⟩
   refine Xaa b1 ?_
   refine Exists.intro (b[l.length-1-i]) (Xaa (by show b[0+(IntKind.i64.wrap (IntKind.i64.wrap ((l.length:Int)-1)-(i:Int))).toNat]? =_;rw[e1,Xaq,Xad];exact Xac hj) ?_)
   have ev:IntKind.u8.wrap (IntKind.i64.wrap (48+d))=48+d:=by rw[Zan (by omega) (by omega)];exact Zem (by omega) (by omega)
   have er:b.set (l.length-1-i) (48+d)=b.set (0+(IntKind.i64.wrap (IntKind.i64.wrap ((l.length:Int)-1)-(i:Int))).toNat) (IntKind.u8.wrap (IntKind.i64.wrap (48+d))):=by rw[ev,e1,Xaq,Xad]
   have wi:IntKind.i64.wrap ((i:Int)+1)=((i+1:Nat):Int):=Zan (by omega) (by omega)
   refine⟨(i+1,b.set (l.length-1-i) (48+d)),⟨j,by show(b.set _ _).length=_;rw[XaN];exact I, ?_⟩,by show l.length-(i+1)<l.length-i;omega, ?_⟩
   ·show(b.set (l.length-1-i) (48+d)).drop (l.length-(i+1))=_
    rw[show l.length-(i+1)=l.length-1-i by omega,Xaz (by rw[XaN];omega),List.getElem_set_self,Xbr (by omega),show l.length-1-i+1=l.length-i by omega,R,XaQ j,ed]
    simp
   ·refine Zas rfl rfl ?_ ?_
    ·exact⟨rfl,⟨rfl,rfl,rfl⟩,rfl,rfl,wi.symm,trivial⟩
    ·exact⟨⟨er,fun _=>rfl⟩,trivial⟩
  ·have he:i=l.length:=by have h': ¬ (i:Int)<(l.length:Int):=of_decide_eq_false h;omega
   subst he
   rw[Nat.sub_self,XaB,XaC]at R
   have hs:sub b 0 l.length=b:=by rw[sub,XaB,Xay (by omega)]
   obtain⟨c1,c2,c3⟩:=ZmM hd
   have J:Zja b=ZhX l:=by rw[R,Zja,ZhX,List.map_map];rfl
   refine Xaa (by show 0+l.length≤b.length;omega) ?_
   refine Xaa (by show([48]:List UInt8).length+(Zja (sub b 0 l.length)).length≤_;rw[hs,J,c3];simp;omega) ?_
   have C:=Zlh (48::ZhX l) (fun c hc=>by
    rcases Xav.1 hc with rfl|hc
    ·decide
    ·exact c1 c hc) (by simp) (by rw[Xap,c3];omega)
   rw[ZjT c1]at C
   have e5:(dv l).toNat=dec (ZhX l):=by rw[←c2,Xad]
   have e6:[48]++Zja (sub b 0 l.length)=48::ZhX l:=by rw[hs,J];rfl
   rw[←e6,←e5]at C
   refine C.mono ?_
   rintro _ rfl
   rfl
 ·refine⟨Xao _,by simp, ?_⟩
  show(List.replicate l.length (0:Int)).drop (l.length-0)=_
  rw[XbJ (by simp)]
  simp
 ·refine Zas rfl rfl ?_ ?_
  ·exact⟨rfl,⟨rfl,U,U⟩,rfl,rfl,rfl,trivial⟩
  ·exact⟨⟨(by show List.replicate l.length (0:Int)=List.replicate ((l.length:Int).toNat) 0;rw[←U]),fun _=>rfl⟩,trivial⟩
def ZAA (a b:List UInt8) (t:Nat×Int×List Int):TM:=[(0, .v .s a),(1, .v .s b),(5, .ref 0 0 t.2.2.length none),(6, .v (.i .i64) t.2.1),(7, .v (.i .i64) (t.1:Int))]
theorem ZuI (a b:List UInt8) (ad:Dg a) (ae:Dg b) (aq:a.length≤900000) (ar:b.length≤900000):PureOK Tryz.prog Zao 96 [.v .s a, .v .s b] (fun V=>V= .v .s (decDigits (dec a+dec b))):=by
 refine Zai Zag Tryz.func96 ?_
 refine Zaw Zag rfl (ZAA a b) (fun t=> [.row (.i .i64) t.2.2 true])
  (fun t=>t.1≤max a.length b.length+1∧0≤t.2.1∧t.2.1≤1∧D9 t.2.2∧t.2.2.length=t.1∧(t.1=max a.length b.length+1→t.2.1=0)∧dv t.2.2+10^t.1*t.2.1=((dec a % 10^t.1+dec b % 10^t.1:Nat):Int)) (fun t=>max a.length b.length+2-t.1) ?_ (0,0,[]) ?_ ?_
 ·rintro⟨k,c,out⟩ ⟨hk,aj,ak,h9,ho,ag,R⟩
  simp only at hk aj ak h9 ho ag R
  refine ZaX (ZaX (Zbe rfl ?_))
  iterate 5 refine Zac ?_
  cases h1:decide ((k:Int)<(a.length:Int))with
  |true=>
   have al:(k:Int)<(a.length:Int):=of_decide_eq_true h1
   iterate 4 refine Zah rfl ?_
   refine Zat rfl ?_
   refine Zac ?_
   iterate 2 refine Zah rfl ?_
   refine Zat rfl ?_
   refine Zbr ?_
   refine brT rfl ?_
   refine(ZdQ a k ad (by omega) (by omega)).mono ?_
   rintro _ rfl
   refine(ZdQ b k ae (by omega) (by omega)).mono ?_
   rintro _ rfl
   obtain⟨j,I⟩: ∃d:Nat,dec a/10^k % 10=d:=⟨_,rfl⟩
   obtain⟨C,J⟩: ∃d:Nat,dec b/10^k % 10=d:=⟨_,rfl⟩
   have U:=ZcB (dec a) k
   have aa:=ZcB (dec b) k
   rw[I]at U
   rw[J]at aa
   rw[I,J]
   have ah:j<10:=by rw[←I];exact Nat.mod_lt _ (by decide)
   have ai:C<10:=by rw[←J];exact Nat.mod_lt _ (by decide)
   have ev:IntKind.i64.wrap (IntKind.i64.wrap ((j:Int)+(C:Int))+c)=(j:Int)+C+c:=by rw[Zan (x:=(j:Int)+(C:Int)) (by omega) (by omega),Zan (by omega) (by omega)]
   obtain⟨v,hv⟩: ∃v:Int,v=(j:Int)+C+c:=⟨_,rfl⟩
   rw[←hv]at ev
   have e1:(IntKind.i64.wrap (IntKind.i64.wrap ((j:Int)+(C:Int))+c)).tmod 10=v % 10:=by rw[ev,XbE (by omega)]
   have e2:IntKind.i64.wrap ((IntKind.i64.wrap (IntKind.i64.wrap ((j:Int)+(C:Int))+c)).tdiv 10)=v/10:=by rw[ev,Int.tdiv_eq_ediv_of_nonneg (by omega),Zan (by omega) (by omega)]
   refine Xaa (by decide) ?_
   refine Xaa (by show 0+1≤1;decide) ?_
   refine Xaa (by show 0+out.length≤out.length;omega) ?_
   refine Xaa (by show(out.length+(0+1))*8≤_;omega) ?_
   refine Xaa (by decide) ?_
   have es:out++ [v % 10]=sub out 0 out.length++ [(IntKind.i64.wrap (IntKind.i64.wrap ((j:Int)+(C:Int))+c)).tmod 10]:=by rw[e1,sub,XaB,XaC]
   have wi:IntKind.i64.wrap ((k:Int)+1)=((k+1:Nat):Int):=Zan (by omega) (by omega)
   refine⟨(k+1,v/10,out++ [v % 10]),⟨?_,by show 0≤v/10;omega,by show v/10≤1;omega, ?_,by show(out++ [v % 10]).length=k+1;simp[ho], ?_, ?_⟩,by show max a.length b.length+2-(k+1)<max a.length b.length+2-k;omega, ?_⟩
   ·show k+1≤max a.length b.length+1
    rcases XaO k (max a.length b.length+1)with h|h
    ·omega
    ·have:=ag (by omega)
     omega
   ·intro d hd
    rcases XaA.1 hd with hd|hd
    ·exact h9 d hd
    ·rw[Xat.1 hd];omega
   ·intro ab
    have ab:k+1=max a.length b.length+1:=ab
    have z1:=Zbx ad (show a.length≤k by omega)
    have z2:=Zbx ae (show b.length≤k by omega)
    show v/10=0
    omega
   ·show dv (out++ [v % 10])+10^(k+1)*(v/10)=_
    rw[Zkn,ho,Xba,U,aa]
    have e3:=XaS v 10
    have e4:(10:Int)^k*(v % 10)+10^k*10*(v/10)=10^k*v:=by rw[Xbx,←XbI,e3]
    rw[Int.add_assoc,e4,hv]
    rw[Xa7,Xa7,Xa7,XaX,XaX,Xbs]
    rw[Xa7]at R
    have af:((10:Nat):Int)=10:=rfl
    rw[af]
    generalize(10:Int)^k=p at*
    grind
   ·refine Zas rfl rfl ?_ ?_
    ·exact⟨rfl,rfl,⟨rfl,(by simp:(out++ [v % 10]).length=out.length+1),(by simp:(out++ [v % 10]).length=out.length+1)⟩,e2.symm,wi.symm,trivial⟩
    ·exact⟨⟨es,fun _=>rfl⟩,trivial⟩
  |false=>
   have al: ¬ (k:Int)<(a.length:Int):=of_decide_eq_false h1
   iterate 4 refine Zab rfl ?_
   refine Zal rfl ?_
   refine Zac ?_
   cases h2:decide ((k:Int)<(b.length:Int))with
   |true=>
    have an:(k:Int)<(b.length:Int):=of_decide_eq_true h2
    iterate 2 refine Zah rfl ?_
    refine Zat rfl ?_
    refine Zbr ?_
    refine brT rfl ?_
    refine(ZdQ a k ad (by omega) (by omega)).mono ?_
    rintro _ rfl
    refine(ZdQ b k ae (by omega) (by omega)).mono ?_
    rintro _ rfl
    obtain⟨j,I⟩: ∃d:Nat,dec a/10^k % 10=d:=⟨_,rfl⟩
    obtain⟨C,J⟩: ∃d:Nat,dec b/10^k % 10=d:=⟨_,rfl⟩
    have U:=ZcB (dec a) k
    have aa:=ZcB (dec b) k
    rw[I]at U
    rw[J]at aa
    rw[I,J]
    have ah:j<10:=by rw[←I];exact Nat.mod_lt _ (by decide)
    have ai:C<10:=by rw[←J];exact Nat.mod_lt _ (by decide)
    have ev:IntKind.i64.wrap (IntKind.i64.wrap ((j:Int)+(C:Int))+c)=(j:Int)+C+c:=by rw[Zan (x:=(j:Int)+(C:Int)) (by omega) (by omega),Zan (by omega) (by omega)]
    obtain⟨v,hv⟩: ∃v:Int,v=(j:Int)+C+c:=⟨_,rfl⟩
    rw[←hv]at ev
    have e1:(IntKind.i64.wrap (IntKind.i64.wrap ((j:Int)+(C:Int))+c)).tmod 10=v % 10:=by rw[ev,XbE (by omega)]
    have e2:IntKind.i64.wrap ((IntKind.i64.wrap (IntKind.i64.wrap ((j:Int)+(C:Int))+c)).tdiv 10)=v/10:=by rw[ev,Int.tdiv_eq_ediv_of_nonneg (by omega),Zan (by omega) (by omega)]
    refine Xaa (by decide) ?_
    refine Xaa (by show 0+1≤1;decide) ?_
    refine Xaa (by show 0+out.length≤out.length;omega) ?_
    refine Xaa (by show(out.length+(0+1))*8≤_;omega) ?_
    refine Xaa (by decide) ?_
    have es:out++ [v % 10]=sub out 0 out.length++ [(IntKind.i64.wrap (IntKind.i64.wrap ((j:Int)+(C:Int))+c)).tmod 10]:=by rw[e1,sub,XaB,XaC]
    have wi:IntKind.i64.wrap ((k:Int)+1)=((k+1:Nat):Int):=Zan (by omega) (by omega)
    refine⟨(k+1,v/10,out++ [v % 10]),⟨?_,by show 0≤v/10;omega,by show v/10≤1;omega, ?_,by show(out++ [v % 10]).length=k+1;simp[ho], ?_, ?_⟩,by show max a.length b.length+2-(k+1)<max a.length b.length+2-k;omega, ?_⟩
    ·show k+1≤max a.length b.length+1
     rcases XaO k (max a.length b.length+1)with h|h
     ·omega
     ·have:=ag (by omega)
      omega
    ·intro d hd
     rcases XaA.1 hd with hd|hd
     ·exact h9 d hd
     ·rw[Xat.1 hd];omega
    ·intro ab
     have ab:k+1=max a.length b.length+1:=ab
     have z1:=Zbx ad (show a.length≤k by omega)
     have z2:=Zbx ae (show b.length≤k by omega)
     show v/10=0
     omega
    ·show dv (out++ [v % 10])+10^(k+1)*(v/10)=_
     rw[Zkn,ho,Xba,U,aa]
     have e3:=XaS v 10
     have e4:(10:Int)^k*(v % 10)+10^k*10*(v/10)=10^k*v:=by rw[Xbx,←XbI,e3]
     rw[Int.add_assoc,e4,hv]
     rw[Xa7,Xa7,Xa7,XaX,XaX,Xbs]
     rw[Xa7]at R
     have af:((10:Nat):Int)=10:=rfl
     rw[af]
     generalize(10:Int)^k=p at*
     grind
    ·refine Zas rfl rfl ?_ ?_
     ·exact⟨rfl,rfl,⟨rfl,(by simp:(out++ [v % 10]).length=out.length+1),(by simp:(out++ [v % 10]).length=out.length+1)⟩,e2.symm,wi.symm,trivial⟩
     ·exact⟨⟨es,fun _=>rfl⟩,trivial⟩
   |false=>
    have an: ¬ (k:Int)<(b.length:Int):=of_decide_eq_false h2
    iterate 2 refine Zab rfl ?_
    refine Zal rfl ?_
    refine Zbr ?_
    refine Xaa (fun h3=> ?_) (fun h3=> ?_)
    ·have ao:(0:Int)<c:=of_decide_eq_true h3
     refine(ZdQ a k ad (by omega) (by omega)).mono ?_
     rintro _ rfl
     refine(ZdQ b k ae (by omega) (by omega)).mono ?_
     rintro _ rfl
     obtain⟨j,I⟩: ∃d:Nat,dec a/10^k % 10=d:=⟨_,rfl⟩
     obtain⟨C,J⟩: ∃d:Nat,dec b/10^k % 10=d:=⟨_,rfl⟩
     have U:=ZcB (dec a) k
     have aa:=ZcB (dec b) k
     rw[I]at U
     rw[J]at aa
     rw[I,J]
     have ah:j<10:=by rw[←I];exact Nat.mod_lt _ (by decide)
     have ai:C<10:=by rw[←J];exact Nat.mod_lt _ (by decide)
     have ev:IntKind.i64.wrap (IntKind.i64.wrap ((j:Int)+(C:Int))+c)=(j:Int)+C+c:=by rw[Zan (x:=(j:Int)+(C:Int)) (by omega) (by omega),Zan (by omega) (by omega)]
     obtain⟨v,hv⟩: ∃v:Int,v=(j:Int)+C+c:=⟨_,rfl⟩
     rw[←hv]at ev
     have e1:(IntKind.i64.wrap (IntKind.i64.wrap ((j:Int)+(C:Int))+c)).tmod 10=v % 10:=by rw[ev,XbE (by omega)]
     have e2:IntKind.i64.wrap ((IntKind.i64.wrap (IntKind.i64.wrap ((j:Int)+(C:Int))+c)).tdiv 10)=v/10:=by rw[ev,Int.tdiv_eq_ediv_of_nonneg (by omega),Zan (by omega) (by omega)]
     refine Xaa (by decide) ?_
     refine Xaa (by show 0+1≤1;decide) ?_
     refine Xaa (by show 0+out.length≤out.length;omega) ?_
     refine Xaa (by show(out.length+(0+1))*8≤_;omega) ?_
     refine Xaa (by decide) ?_
     have es:out++ [v % 10]=sub out 0 out.length++ [(IntKind.i64.wrap (IntKind.i64.wrap ((j:Int)+(C:Int))+c)).tmod 10]:=by rw[e1,sub,XaB,XaC]
     have wi:IntKind.i64.wrap ((k:Int)+1)=((k+1:Nat):Int):=Zan (by omega) (by omega)
     refine⟨(k+1,v/10,out++ [v % 10]),⟨?_,by show 0≤v/10;omega,by show v/10≤1;omega, ?_,by show(out++ [v % 10]).length=k+1;simp[ho], ?_, ?_⟩,by show max a.length b.length+2-(k+1)<max a.length b.length+2-k;omega, ?_⟩
     ·show k+1≤max a.length b.length+1
      rcases XaO k (max a.length b.length+1)with h|h
      ·omega
      ·have:=ag (by omega)
       omega
     ·intro d hd
      rcases XaA.1 hd with hd|hd
      ·exact h9 d hd
      ·rw[Xat.1 hd];omega
     ·intro ab
      have ab:k+1=max a.length b.length+1:=ab
      have z1:=Zbx ad (show a.length≤k by omega)
      have z2:=Zbx ae (show b.length≤k by omega)
      show v/10=0
      omega
     ·show dv (out++ [v % 10])+10^(k+1)*(v/10)=_
      rw[Zkn,ho,Xba,U,aa]
      have e3:=XaS v 10
      have e4:(10:Int)^k*(v % 10)+10^k*10*(v/10)=10^k*v:=by rw[Xbx,←XbI,e3]
      rw[Int.add_assoc,e4,hv]
      rw[Xa7,Xa7,Xa7,XaX,XaX,Xbs]
      rw[Xa7]at R
      have af:((10:Nat):Int)=10:=rfl
      rw[af]
      generalize(10:Int)^k=p at*
      grind
     ·refine Zas rfl rfl ?_ ?_
      ·exact⟨rfl,rfl,⟨rfl,(by simp:(out++ [v % 10]).length=out.length+1),(by simp:(out++ [v % 10]).length=out.length+1)⟩,e2.symm,wi.symm,trivial⟩
      ·exact⟨⟨es,fun _=>rfl⟩,trivial⟩
    ·have ao: ¬ (0:Int)<c:=of_decide_eq_false h3
     have hc:c=0:=by omega
     subst hc
     have ea:dec a % 10^k=dec a:=Xbc (XaJ (ZbI ad) (XaW (by decide) (by omega)))
     have eb:dec b % 10^k=dec b:=Xbc (XaJ (ZbI ae) (XaW (by decide) (by omega)))
     rw[ea,eb,Int.mul_zero,Int.add_zero]at R
     refine Xaa (by show 0+out.length≤out.length;omega) ?_
     have hs:sub out 0 out.length=out:=by rw[sub,XaB,XaC]
     have hr:=ZnY out h9 (by omega)
     rw[←hs]at hr
     refine hr.mono ?_
     rintro _ rfl
     rw[hs,R,Xad]
     rfl
 ·exact⟨Xao _,XaT _,by show(0:Int)≤1;decide,fun d hd=>by simp at hd,rfl,fun _=>rfl,by simp[dv,Nat.mod_one]⟩
 ·refine Zas rfl rfl ?_ ?_
  ·exact⟨rfl,rfl,⟨rfl,rfl,rfl⟩,rfl,rfl,trivial⟩
  ·exact⟨rfl,trivial⟩
def ZAM (a b:List UInt8) (t:Nat×Int×List Int):TM:=[(0, .v .s a),(1, .v .s b),(5, .ref 0 0 t.2.2.length none),(6, .v (.i .i64) t.2.1),(10, .v (.i .i64) (a.length:Int)),(11, .v (.i .i64) (t.1:Int))]
theorem Zpc (a b:List UInt8) (J:Dg a) (af:Dg b) (aj:a.length≤900000) (ak:b.length≤900000) (hle:dec b≤dec a):PureOK Tryz.prog Zao 98 [.v .s a, .v .s b] (fun V=>V= .v .s (decDigits (dec a-dec b))):=by
 refine Zai Zag Tryz.func98 ?_
 refine Zaw Zag rfl (ZAM a b) (fun t=> [.row (.i .i64) t.2.2 true])
  (fun t=>t.1≤a.length∧0≤t.2.1∧t.2.1≤1∧D9 t.2.2∧t.2.2.length=t.1∧dv t.2.2+((dec b % 10^t.1:Nat):Int)=((dec a % 10^t.1:Nat):Int)+10^t.1*t.2.1) (fun t=>a.length-t.1) ?_ (0,0,[]) ?_ ?_
 ·rintro⟨k,c,out⟩ ⟨hk,ag,ah,h9,ho,j⟩
  simp only at hk ag ah h9 ho j
  refine Xaa (fun h=> ?_) (fun h=> ?_)
  ·have R:k<a.length:=by have h':(k:Int)<(a.length:Int):=of_decide_eq_true h;omega
   refine(ZdQ a k J (by omega) (by omega)).mono ?_
   rintro _ rfl
   refine(ZdQ b k af (by omega) (by omega)).mono ?_
   rintro _ rfl
   obtain⟨C,U⟩: ∃d:Nat,dec a/10^k % 10=d:=⟨_,rfl⟩
   obtain⟨I,aa⟩: ∃d:Nat,dec b/10^k % 10=d:=⟨_,rfl⟩
   have ad:=ZcB (dec a) k
   have ae:=ZcB (dec b) k
   rw[U]at ad
   rw[aa]at ae
   rw[U,aa]
   have al:C<10:=by rw[←U];exact Nat.mod_lt _ (by decide)
   have an:I<10:=by rw[←aa];exact Nat.mod_lt _ (by decide)
   have ev:IntKind.i64.wrap (IntKind.i64.wrap ((C:Int)-(I:Int))-c)=(C:Int)-I-c:=by rw[Zan (x:=(C:Int)-(I:Int)) (by omega) (by omega),Zan (by omega) (by omega)]
   obtain⟨v,hv⟩: ∃v:Int,v=(C:Int)-I-c:=⟨_,rfl⟩
   rw[←hv]at ev
   have wi:IntKind.i64.wrap ((k:Int)+1)=((k+1:Nat):Int):=Zan (by omega) (by omega)
   have next: ∀d c':Int,0≤d→d≤9→d=v+10*c'→0≤c'→c'≤1→(k+1≤a.length∧0≤c'∧c'≤1∧D9 (out++ [d])∧(out++ [d]).length=k+1∧dv (out++ [d])+((dec b % 10^(k+1):Nat):Int)=((dec a % 10^(k+1):Nat):Int)+10^(k+1)*c'):=by
    intro d c' d0 d9 ed c0 c1
    refine⟨R,c0,c1, ?_,by simp[ho], ?_⟩
    ·intro x hx
     rcases XaA.1 hx with hx|hx
     ·exact h9 x hx
     ·rw[Xat.1 hx];exact⟨d0,d9⟩
    ·rw[Zkn,ho,Xba,ad,ae,Xa7,Xa7,XaX,XaX,Xbs]
     have ai:((10:Nat):Int)=10:=rfl
     rw[ai]
     generalize(10:Int)^k=p at*
     subst ed
     rw[hv]
     grind
   refine Xaa (fun h2=> ?_) (fun h2=> ?_)
   ·have ab:IntKind.i64.wrap (IntKind.i64.wrap ((C:Int)-(I:Int))-c)<0:=of_decide_eq_true h2
    rw[ev]at ab
    have e1:IntKind.i64.wrap (IntKind.i64.wrap (IntKind.i64.wrap ((C:Int)-(I:Int))-c)+10)=v+10:=by rw[ev];exact Zan (by omega) (by omega)
    refine Xaa (by show 0+1≤1;decide) ?_
    refine Xaa (by show 0+out.length≤out.length;omega) ?_
    refine Xaa (by show(out.length+(0+1))*8≤_;omega) ?_
    have es:out++ [v+10]=sub out 0 out.length++ [IntKind.i64.wrap (IntKind.i64.wrap (IntKind.i64.wrap ((C:Int)-(I:Int))-c)+10)]:=by rw[e1,sub,XaB,XaC]
    refine⟨(k+1,1,out++ [v+10]),next (v+10) 1 (by omega) (by omega) (by omega) (by decide) (by decide),by show a.length-(k+1)<a.length-k;omega, ?_⟩
    refine Zas rfl rfl ?_ ?_
    ·exact⟨rfl,rfl,⟨rfl,(by simp:(out++ [v+10]).length=out.length+1),(by simp:(out++ [v+10]).length=out.length+1)⟩,rfl,rfl,wi.symm,trivial⟩
    ·exact⟨⟨es,fun _=>rfl⟩,trivial⟩
   ·have ab: ¬IntKind.i64.wrap (IntKind.i64.wrap ((C:Int)-(I:Int))-c)<0:=of_decide_eq_false h2
    rw[ev]at ab
    refine Xaa (by show 0+1≤1;decide) ?_
    refine Xaa (by show 0+out.length≤out.length;omega) ?_
    refine Xaa (by show(out.length+(0+1))*8≤_;omega) ?_
    have es:out++ [v]=sub out 0 out.length++ [IntKind.i64.wrap (IntKind.i64.wrap ((C:Int)-(I:Int))-c)]:=by rw[ev,sub,XaB,XaC]
    refine⟨(k+1,0,out++ [v]),next v 0 (by omega) (by omega) (by omega) (by decide) (by decide),by show a.length-(k+1)<a.length-k;omega, ?_⟩
    refine Zas rfl rfl ?_ ?_
    ·exact⟨rfl,rfl,⟨rfl,(by simp:(out++ [v]).length=out.length+1),(by simp:(out++ [v]).length=out.length+1)⟩,rfl,rfl,wi.symm,trivial⟩
    ·exact⟨⟨es,fun _=>rfl⟩,trivial⟩
  ·have he:k=a.length:=by have h': ¬ (k:Int)<(a.length:Int):=of_decide_eq_false h;omega
   subst he
   have ea:dec a % 10^a.length=dec a:=Xbc (ZbI J)
   have eb:dec b % 10^a.length=dec b:=Xbc (Nat.lt_of_le_of_lt hle (ZbI J))
   rw[ea,eb]at j
   have R:=Zzb h9
   rw[ho]at R
   have hp:(0:Int)<10^a.length:=XbB (by decide)
   have hc:c=0:=by
    rcases(show c=0∨c=1 by omega)with h|h
    ·exact h
    ·subst h;omega
   subst hc
   rw[Int.mul_zero,Int.add_zero]at j
   refine Xaa (by show 0+out.length≤out.length;omega) ?_
   have hs:sub out 0 out.length=out:=by rw[sub,XaB,XaC]
   have hr:=ZnY out h9 (by omega)
   rw[←hs]at hr
   refine hr.mono ?_
   rintro _ rfl
   have e:(dv out).toNat=dec a-dec b:=by omega
   rw[hs,e]
   rfl
 ·exact⟨Xao _,XaT _,by show(0:Int)≤1;decide,fun d hd=>by simp at hd,rfl,by simp[dv,Nat.mod_one]⟩
 ·refine Zas rfl rfl ?_ ?_
  ·exact⟨rfl,rfl,⟨rfl,rfl,rfl⟩,rfl,rfl,rfl,trivial⟩
  ·exact⟨rfl,trivial⟩
def ZAm (a b q:List UInt8) (i:Nat) (t:Nat×Nat):TM:=[(0, .v .s a),(1, .v .s b),(7, .v .s q),(8, .v .s (decDigits t.2)),(9, .v (.i .i64) (i:Int)),(10, .v (.i .u8) ((48+t.1:Nat):Int))]
theorem ZxP (a b q:List UInt8) (i R1:Nat) (R:Cn b) (U:0<dec b) (ad:b.length≤100000) (ae:R1<10*dec b):
 LoopOK Tryz.prog Zao 0 ⟨94,0,53⟩ (Za4 Tryz.f94 8) (ZAm a b q i (0,R1)) []
 (fun e tm hp=>e= .exit 2∧ ∃ (X1 X2 X3 X4:SV),tm=(40,X1)::(39,X2)::(38,X3)::(37,X4)::ZAm a b q i (R1/dec b,R1 % dec b)∧hp=[]):=by
 refine Zaw Zag rfl (ZAm a b q i) (fun _=> []) (fun t=>R1=t.1*dec b+t.2) (fun t=>t.2) ?_ (0,R1) ?_ ZaJ
 ·rintro⟨j,r⟩ C
  simp only at C
  have aa:r<10^(b.length+1):=by
   have h1:=ZbI R.2.1
   rw[Nat.pow_succ]
   omega
  have af:=(Zbt (n:=r) (k:=b.length+1) (by omega)).2 aa
  have hc:=ZpC (decDigits r) b (Zbi r) R (by omega) (by omega)
  rw[Zay]at hc
  refine hc.mono ?_
  rintro _ rfl
  refine Xaa (fun h=> ?_) (fun h=> ?_)
  ·have J:(0:Int)≤((r:Int)-(dec b:Int)).sign:=of_decide_eq_true h
   have ab:dec b≤r:=by
    rcases XaO r (dec b)with h1|h1
    ·rw[Int.sign_eq_neg_one_of_neg (by omega)]at J
     exact absurd J (by decide)
    ·exact h1
   have hs:=Zpc (decDigits r) b (ZaT r) R.2.1 (by omega) (by omega) (by rw[Zay];exact ab)
   rw[Zay]at hs
   refine hs.mono ?_
   rintro _ rfl
   have hj:j<9:=by
    rcases XaO j 9 with h1|h1
    ·exact h1
    ·have h2:9*dec b≤j*dec b:=Xa8 _ h1
     omega
   have eu:IntKind.u8.wrap (((48+j:Nat):Int)+1)=((48+(j+1):Nat):Int):=by rw[Zem (by omega) (by omega)];omega
   refine⟨(j+1,r-dec b), ?_,by show r-dec b<r;omega, ?_⟩
   ·show R1=(j+1)*dec b+(r-dec b)
    rw[Xa4,Nat.one_mul];omega
   ·refine Zas rfl rfl ?_ ?_
    ·exact⟨rfl,rfl,rfl,rfl,rfl,eu.symm,trivial⟩
    ·exact trivial
  ·have J: ¬ (0:Int)≤((r:Int)-(dec b:Int)).sign:=of_decide_eq_false h
   have I:r<dec b:=by
    rcases XaO r (dec b)with h1|h1
    ·exact h1
    ·exact absurd (Int.sign_nonneg_iff.2 (by omega)) J
   have e1:R1/dec b=j:=by rw[C,Nat.mul_comm,Nat.mul_add_div U,Nat.div_eq_of_lt I,Nat.add_zero]
   have e2:R1 % dec b=r:=by rw[C,Nat.mul_comm,Nat.mul_add_mod,Xbc I]
   rw[e1,e2]
   exact⟨rfl,_,_,_,_,rfl,rfl⟩
 ·show R1=0*dec b+R1
  omega
theorem Zli (a b:List UInt8) (ha:Dg a) (hb:Cn b) (I:0<dec b) (au:a.length≤100000) (ah:b.length≤100000):PureOK Tryz.prog Zao 94 [.v .s a, .v .s b] (fun V=>V= .tup [.v .s (decDigits (dec a/dec b)), .v .s (decDigits (dec a % dec b))]):=by
 refine Zai Zag Tryz.func94 ?_
 have ai:0<b.length:=List.length_pos_iff.2 hb.1
 obtain⟨fr,av⟩: ∃k,min a.length (b.length-1)=k:=⟨_,rfl⟩
 have ae:fr≤a.length:=by omega
 have C:(if IntKind.i64.wrap ((b.length:Int)-1)<(a.length:Int)then IntKind.i64.wrap ((b.length:Int)-1)else(a.length:Int))=(fr:Int):=by
  rw[Zan (by omega) (by omega)]
  split<;>omega
 have aj:(0:Int)≤(if IntKind.i64.wrap ((b.length:Int)-1)<(a.length:Int)then IntKind.i64.wrap ((b.length:Int)-1)else(a.length:Int))∧(if IntKind.i64.wrap ((b.length:Int)-1)<(a.length:Int)then IntKind.i64.wrap ((b.length:Int)-1)else(a.length:Int))≤(a.length:Int):=by rw[C];omega
 have eT:List.drop 0 (List.take (Int.toNat (if IntKind.i64.wrap ((b.length:Int)-1)<(a.length:Int)then IntKind.i64.wrap ((b.length:Int)-1)else(a.length:Int))) a)=a.take fr:=by rw[C,Xad,XaB]
 have ab:Dg (a.take fr):=fun c J=>ha c (XaH J)
 have hS:=Zlh ([48]++List.drop 0 (List.take (Int.toNat (if IntKind.i64.wrap ((b.length:Int)-1)<(a.length:Int)then IntKind.i64.wrap ((b.length:Int)-1)else(a.length:Int))) a)) (by rw[eT];exact Dg.app (fun c J=>by rw[Xat.1 J];decide) ab) (by simp) (by rw[eT];simp;omega)
 rw[show dec ([48]++List.drop 0 (List.take (Int.toNat (if IntKind.i64.wrap ((b.length:Int)-1)<(a.length:Int)then IntKind.i64.wrap ((b.length:Int)-1)else(a.length:Int))) a))=dec (a.take fr)from by rw[eT];exact ZjT ab]at hS
 have ak:dec (a.take fr)<dec b:=by
  have h1:=ZbI ab
  rw[Xas,XaL ae]at h1
  by_cases al:1<b.length
  ·exact XaJ h1 (XaM (XaW (by decide) (by omega)) (hb.ge al))
  ·have:fr=0:=by omega
   subst this
   exact I
 refine Xaa aj ?_
 refine Xaa (by show 1+(List.drop 0 (List.take (Int.toNat (if IntKind.i64.wrap ((b.length:Int)-1)<(a.length:Int)then IntKind.i64.wrap ((b.length:Int)-1)else(a.length:Int))) a)).length≤_;rw[eT,Xas];omega) ?_
 refine hS.mono ?_
 rintro _ rfl
 refine Zaw Zag rfl (fun(t:Nat×List UInt8×Nat)=> [(0, .v .s a),(1, .v .s b),(7, .v .s t.2.1),(8, .v .s (decDigits t.2.2)),(9, .v (.i .i64) (t.1:Int))]) (fun _=> [])
  (fun t=>t.1≤a.length∧Dg t.2.1∧t.2.1≠ []∧t.2.1.length≤t.1+1∧t.2.2<dec b∧dec (a.take t.1)=dec t.2.1*dec b+t.2.2) (fun t=>a.length-t.1) ?_ (fr,[48],dec (a.take fr)) ?_ ?_
 ·rintro⟨i,q,R⟩ ⟨hi,hq,af,an,hR,j⟩
  simp only at hi hq af an hR j
  refine Xaa (fun h=> ?_) (fun h=> ?_)
  ·have U:i<a.length:=by have h':(i:Int)<(a.length:Int):=of_decide_eq_true h;omega
   obtain⟨c,J⟩: ∃c,a[i]=c:=⟨_,rfl⟩
   have ag:=ha _ (Xax U)
   rw[J]at ag
   have ei:IntKind.i64.wrap ((i:Int)+1)=((i+1:Nat):Int):=Zan (by omega) (by omega)
   have eS:List.drop (i:Int).toNat (List.take (IntKind.i64.wrap ((i:Int)+1)).toNat a)=[c]:=by
    rw[ei,Xad,Xad,XaQ U,J]
    exact List.drop_left' (by rw[Xas];omega)
   have aw:(decDigits R).length≤b.length:=(Zbt ai).2 (Nat.lt_trans hR (ZbI hb.2.1))
   have hS:=Zlh (decDigits R++List.drop (i:Int).toNat (List.take (IntKind.i64.wrap ((i:Int)+1)).toNat a)) (by rw[eS];exact Dg.app (ZaT R) (fun x hx=>by rw[Xat.1 hx];exact ag)) (by rw[eS];simp) (by rw[eS];simp;omega)
   rw[show dec (decDigits R++List.drop (i:Int).toNat (List.take (IntKind.i64.wrap ((i:Int)+1)).toNat a))=R*10+(c.toNat-48)from by rw[eS,Zfd,Zay]]at hS
   obtain⟨R1,ao⟩: ∃n,R*10+(c.toNat-48)=n:=⟨_,rfl⟩
   rw[ao]at hS
   have aa:R1<10*dec b:=by omega
   refine Xaa (by show 0≤(i:Int)∧(i:Int)≤IntKind.i64.wrap ((i:Int)+1)∧IntKind.i64.wrap ((i:Int)+1)≤(a.length:Int);rw[ei];omega) ?_
   refine Xaa (by show(decDigits R).length+(List.drop (i:Int).toNat (List.take (IntKind.i64.wrap ((i:Int)+1)).toNat a)).length≤_;rw[eS];show(decDigits R).length+1≤_;omega) ?_
   refine hS.mono ?_
   rintro _ rfl
   refine((ZxP a b q i R1 hb I ah aa).ent ?_).mono ?_
   ·refine Zas rfl rfl ?_ ?_
    ·exact⟨rfl,rfl,rfl,rfl,rfl,rfl,trivial⟩
    ·exact trivial
   rintro _ _ _ ⟨rfl,X1,X2,X3,X4,rfl,rfl⟩
   have ad:R1/dec b<10:=Nat.div_lt_of_lt_mul (by rw[Nat.mul_comm];exact aa)
   obtain⟨d,hd⟩: ∃d,R1/dec b=d:=⟨_,rfl⟩
   have aq:=Nat.div_add_mod R1 (dec b)
   rw[hd]at ad aq
   have ar:q++ [UInt8.ofNat (48+d)]=q++ [UInt8.ofNat ((48+R1/dec b:Nat):Int).toNat]:=by rw[hd,Xad]
   refine Xaa (by show(0:Int)≤((48+R1/dec b:Nat):Int)∧((48+R1/dec b:Nat):Int)<128;rw[hd];omega) ?_
   refine Xaa (by show q.length+1≤9223372036854775807;omega) ?_
   refine⟨(i+1,q++ [UInt8.ofNat (48+d)],R1 % dec b),⟨U, ?_,by simp, ?_,Nat.mod_lt _ I, ?_⟩,by show a.length-(i+1)<a.length-i;omega, ?_⟩
   ·exact hq.app (fun x hx=>by rw[Xat.1 hx,Zdu ad];omega)
   ·show(q++ [_]).length≤i+1+1
    simp
    omega
   ·show dec (a.take (i+1))=dec (q++ [UInt8.ofNat (48+d)])*dec b+R1 % dec b
    rw[XaQ U,J,Zfd,Zfd,Zdu ad,j,Nat.add_sub_cancel_left]
    have e3:(dec q*10+d)*dec b=dec q*dec b*10+dec b*d:=by rw[Xa4,Nat.mul_comm d,Nat.mul_assoc,Nat.mul_comm 10,←Nat.mul_assoc]
    rw[e3,Xa4]
    omega
   ·refine Zas rfl rfl ?_ ?_
    ·exact⟨rfl,rfl,ar,rfl,ei.symm,trivial⟩
    ·exact trivial
  ·have he:i=a.length:=by have h': ¬ (i:Int)<(a.length:Int):=of_decide_eq_false h;omega
   subst he
   rw[XaC]at j
   refine(Zlh q hq af (by omega)).mono ?_
   rintro _ rfl
   have e1:dec a/dec b=dec q:=by
    rw[j,Nat.mul_comm,Nat.mul_add_div I,Nat.div_eq_of_lt hR,Nat.add_zero]
   have e2:dec a % dec b=R:=by
    rw[j,Nat.mul_comm,Nat.mul_add_mod,Xbc hR]
   show SV.tup [.v .s (decDigits (dec q)), .v .s (decDigits R)]=_
   rw[e1,e2]
 ·refine⟨ae,fun c J=>by rw[Xat.1 J];decide,by simp,by show 1≤fr+1;omega,ak, ?_⟩
  show dec (a.take fr)=dec [48]*dec b+dec (a.take fr)
  rw[Zjo]
  simp
 ·refine Zas rfl rfl ?_ ?_
  ·exact⟨rfl,rfl,rfl,rfl,C.symm,trivial⟩
  ·exact trivial
theorem Ziv (n:Nat):(decDigits n==[48])=decide (n=0):=by
 by_cases h:n=0
 ·subst h
  rw[decDigits_one (by decide)]
  rfl
 ·rw[decide_eq_false h]
  cases C:(decDigits n==[48])with
  |false=>rfl
  |true=>
   have I:decDigits n=[48]:=by simpa using C
   have j:=Zay n
   rw[I]at j
   exact absurd j.symm h
theorem Zoz (a b:List UInt8) (ha:Cn a) (hb:Cn b) (C:a.length≤90000) (I:b.length≤90000):PureOK Tryz.prog Zao 77 [.v .s a, .v .s b] (fun V=>V= .v .s (decDigits (Nat.gcd (dec a) (dec b)))):=by
 refine Zai Zag Tryz.func77 ?_
 obtain⟨L,U⟩: ∃L:Nat,90000=L:=⟨_,rfl⟩
 rw[U]at C I
 have aa:1≤L:=by omega
 have ab:dec a<10^L:=XaJ (ZbI ha.2.1) (XaW (by decide) C)
 have ad:dec b<10^L:=XaJ (ZbI hb.2.1) (XaW (by decide) I)
 have hL: ∀ {n:Nat},n<10^L→(decDigits n).length≤L:=fun h=>(Zbt aa).2 h
 generalize(10:Nat)^L=P at*
 refine Zaw Zag rfl (fun(t:Nat×Nat)=> [(0, .v .s (decDigits t.1)),(1, .v .s (decDigits t.2))]) (fun _=> [])
  (fun t=>t.1<P∧t.2<P∧Nat.gcd t.1 t.2=Nat.gcd (dec a) (dec b)) (fun t=>t.2) ?_ (dec a,dec b) ?_ ?_
 ·rintro⟨x,y⟩ ⟨hx,hy,R⟩
  simp only at hx hy R
  have hz:=Ziv y
  refine Xaa (fun h=> ?_) (fun h=> ?_)
  ·have J:(!(decDigits y==[48]))=true:=h
   have j:0<y:=by
    rcases Nat.eq_zero_or_pos y with h0|h0
    ·rw[hz,decide_eq_true h0]at J
     cases J
    ·exact h0
   have hD:=Zli (decDigits x) (decDigits y) (ZaT x) (Zbi y) (by rw[Zay];exact j) (by have:=hL hx;omega) (by have:=hL hy;omega)
   rw[Zay,Zay]at hD
   refine hD.mono ?_
   rintro _ rfl
   have hr:x % y<y:=Nat.mod_lt _ j
   refine⟨(y,x % y),⟨hy,by show x % y<P;omega, ?_⟩,hr, ?_⟩
   ·show Nat.gcd y (x % y)=_
    rw[←R,Nat.gcd_comm y (x % y),←Nat.gcd_rec y x]
    exact Nat.gcd_comm y x
   ·refine Zas rfl rfl ?_ ?_
    ·exact⟨rfl,rfl,trivial⟩
    ·exact trivial
  ·have J:(!(decDigits y==[48]))=false:=h
   have j:y=0:=by
    rcases Nat.eq_zero_or_pos y with h0|h0
    ·exact h0
    ·rw[hz,decide_eq_false (by omega)]at J
     cases J
   subst j
   rw[Nat.gcd_zero_right]at R
   show SV.v .s (decDigits x)=_
   rw[R]
 ·exact⟨ab,ad,rfl⟩
 ·refine Zas rfl rfl ?_ ?_
  ·exact⟨ha.eq,hb.eq,trivial⟩
  ·exact trivial
end Go.Proofs.YtapbiodcncnnfaaGreatDoor

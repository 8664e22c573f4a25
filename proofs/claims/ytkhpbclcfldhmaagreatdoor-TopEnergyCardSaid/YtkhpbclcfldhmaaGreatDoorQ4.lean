/-
 nat.Gcd, for a seat without the other functions of package nat.
-/
import Derived.Test.YtkhpbclcfldhmaaGreatDoorT20
set_option linter.constructorNameAsVariable false
set_option linter.unusedSimpArgs false
set_option linter.unusedVariables false
namespace Go.Proofs.YtkhpbclcfldhmaaGreatDoor
open Go.Am Go.Tx Dv Go.Lib
set_option maxRecDepth 100000
abbrev rs (x:List UInt8×Int):SV:= .tup [.v .s x.1, .v (.i .i64) x.2]
def Zwh (a b:List UInt8) (x:List UInt8×Int):List UInt8×Int:=match decide (Zjd a b=0)with
 |true=>x
 |false=>([],Zjd a b)
theorem ZsI (a b:List UInt8) (hla:a.length≤9223372036854775806) (hlb:b.length≤9223372036854775806):(Zjd a b=0∧PureOK Tryz.prog Zao 58 [.v .s a, .v .s b] (fun V=>V= .tup [IS (dec a:Nat),IS (dec b:Nat), .v (.i .i64) (0:Int)]))∨
 (Zjd a b≠0∧PureOK Tryz.prog Zao 58 [.v .s a, .v .s b] (fun V=>V= .tup [.agg [.v .b false, .nils], .agg [.v .b false, .nils], .v (.i .i64) (Zjd a b)])):=by
 have h:=Zzf a b hla hlb
 cases hd:decide (Zjd a b=0)with
 |true=>
  refine .inl ⟨of_decide_eq_true hd,h.mono ?_⟩
  rintro V rfl
  simp only[Zw8,hd]
 |false=>
  refine .inr ⟨of_decide_eq_false hd,h.mono ?_⟩
  rintro V rfl
  simp only[Zw8,hd]
theorem Zvn {a:List UInt8} (h:ZaL a=0):ln (dec a:Nat)≤2000:=by
 rw[ln,Int.natAbs_natCast]
 exact Nat.le_trans (Zvf (ZbU h).1.2.1) (ZbU h).2
theorem RxDoorQ41lt {n k m:Nat} (h:n<10^k) (hk:k≤m):n<10^m:=Nat.lt_of_lt_of_le h (Nat.pow_le_pow_right (by decide) hk)
theorem ZkI {a:List UInt8} (h:ZaL a=0):dec a<10^2000:=RxDoorQ41lt (m:=2000) (ZjA (ZbU h).1.2.1) (ZbU h).2
set_option maxHeartbeats 4000000 in
theorem Zti (a b:List UInt8) (hla:a.length≤9223372036854775806) (hlb:b.length≤9223372036854775806):PureOK Tryz.prog Zao 39 [.v .s a, .v .s b] (fun V=>V=rs (Zwh a b (Ztc (Nat.gcd (dec a) (dec b))))):=by
 refine Zae Zah Tryz.func39 ?_
 rcases ZsI a b hla hlb with⟨hE,h2⟩|⟨hE,h2⟩
 ·refine h2.mono ?_
  rintro _ rfl
  obtain⟨ea,eb⟩:=Zsj hE
  have la:=Zvn ea
  have lb:=Zvn eb
  have da:=ZkI ea
  have db:=ZkI eb
  have hd:decide (Zjd a b=0)=true:=decide_eq_true hE
  refine And.intro rfl ?_
  refine And.intro rfl ?_
  refine And.intro (fun h=>absurd h (by decide)) (fun _=> ?_)
  refine And.intro rfl ?_
  refine And.intro rfl ?_
  refine(Zxi (dec a:Nat) (dec b:Nat) (by omega) (by omega)).mono ?_
  rintro _ rfl
  have ht:=Zyp (Nat.gcd (dec a) (dec b))
  refine ht.mono ?_
  rintro _ rfl
  simp only[Zwh,hd]
  rfl
 ·refine h2.mono ?_
  rintro _ rfl
  have hd:decide (Zjd a b=0)=false:=decide_eq_false hE
  refine And.intro rfl ?_
  refine And.intro rfl ?_
  have hn:(!decide (Zjd a b=0))=true:=by rw[hd];rfl
  refine And.intro (fun _=> ?_) (fun h=>(nf hn h).elim)
  show _=rs (Zwh a b (Ztc (Nat.gcd (dec a) (dec b))))
  simp only[Zwh,hd]
end Go.Proofs.YtkhpbclcfldhmaaGreatDoor
/-
 rat.Check, CheckAll.
-/
namespace Go.Proofs.YtkhpbclcfldhmaaGreatDoor
open Go.Am Go.Tx Dv Go.Lib
set_option maxRecDepth 100000
theorem Zul (a:List UInt8):ZmF a [45]=Zm8 a:=by
 cases a with
 |nil=>rfl
 |cons b l=>
  show(decide (((1:Nat):Int)≤((b::l).length:Int))&&((b::l).take 1==[45]))=(some b==some 45)
  rw[decide_eq_true (by simp only[List.length_cons];omega),Bool.true_and]
  show([b]==[45])=_
  rw[Bool.eq_iff_iff]
  simp
theorem Zxm (a:List UInt8):PureOK Tryz.prog Zao 36 [.v .s a, .v .s [45]] (fun V=>V= .v .s (Zkb a)):=by
 refine(Zg5 a [45]).mono ?_
 rintro _ rfl
 rw[Zul,Zkb]
 cases Zm8 a<;>rfl
theorem ZxI (m n B:Nat) (hm:m<B) (hn:n<B):Nat.gcd m n<B:=by
 rcases Nat.eq_zero_or_pos n with h|h
 ·subst h;rw[Nat.gcd_zero_right];exact hm
 ·exact Nat.lt_of_le_of_lt (Nat.gcd_le_right m h) hn
theorem ZxY {n d:List UInt8} (h:PureOK Tryz.prog Zao 39 [.v .s n, .v .s d] (fun V=>V=rs (Zwh n d (Ztc (Nat.gcd (dec n) (dec d)))))) (z1:ZaL n=0) (z2:ZaL d=0):PureOK Tryz.prog Zao 39 [.v .s n, .v .s d] (fun V=>V=rs (decDigits (Nat.gcd (dec n) (dec d)),0)):=by
 have hE:Zjd n d=0:=by simp only[Zjd,z1,decide_true,z2]
 have e:Zwh n d (Ztc (Nat.gcd (dec n) (dec d)))=(decDigits (Nat.gcd (dec n) (dec d)),0):=by
  unfold Zwh
  rw[decide_eq_true hE,ZpW (ZxI _ _ _ (ZkI z1) (ZkI z2))]
 rw[e]at h
 exact h
set_option maxHeartbeats 8000000 in
theorem ZoM (a:List UInt8) (hl:a.length≤9223372036854775806):PureOK Tryz.prog Zao 18 [.v .s a] (fun V=>V= .v (.i .i64) (ZbK a)):=by
 refine Zae Zah Tryz.func18 ?_
 have hT:=Zxm a
 obtain⟨ha1,ha2⟩:=ZwJ a
 obtain⟨hc1,hc2⟩:=Zws (Zkb a) 47
 have hC:=Zx1 (Zkb a) 47 (by omega)
 have hP:=Zmv a
 have hBad:Zw5 a=(rIs a&&(decide (dec (ZqK a)=0)||(decide (dec (ZqK a)=1)|| !decide (Nat.gcd (dec (Ztf a)) (dec (ZqK a))=1)))):=rfl
 have hE2:rE2 a=match rIs a with|true=>ZaL (ZqK a)|false=>0:=rfl
 have e1:Ztf a=(ZhH (Zkb a) 47).1:=rfl
 have e2:ZqK a=(ZhH (Zkb a) 47).2.1:=rfl
 have e3:rIs a=(ZhH (Zkb a) 47).2.2:=rfl
 obtain⟨s,hs⟩: ∃s,Zkb a=s:=⟨_,rfl⟩
 obtain⟨⟨n,d,is⟩,hcut⟩: ∃x,ZhH (Zkb a) 47=x:=⟨_,rfl⟩
 rw[hcut]at hC e1 e2 e3 hc1 hc2
 rw[hs]at hC hT ha1 ha2 hc1 hc2
 simp only at e1 e2 e3 hc1 hc2
 rw[e1]at hP hBad
 rw[e2]at hBad hE2
 rw[e3]at hBad hE2
 have hNn:=ZeM n (by omega)
 have hNd:=ZeM d (by omega)
 have hGc:=Zti n d (by omega) (by omega)
 obtain⟨m,hm⟩: ∃m,Zm8 a=m:=⟨_,rfl⟩
 rw[hm]at ha2 hP
 refine hT.mono ?_
 rintro _ rfl
 refine hC.mono ?_
 rintro _ rfl
 refine hNn.mono ?_
 rintro _ rfl
 obtain⟨E1,hE1⟩: ∃x,ZaL n=x:=⟨_,rfl⟩
 cases is with
 |false=>
  simp only[Bool.false_and]at hBad hE2
  rw[hBad,hE2,hE1]at hP
  rw[hP,hE1]
  refine brF rfl ?_
  cases b1:decide (E1=5)with
  |true=>
   refine Zag ?_
   iterate 3 refine Zab ?_
   refine Zap b1 ?_
   refine Zap b1 ?_
   refine ZaK b1 ?_
   refine Zab ?_
   refine Zap rfl ?_
   refine Zap rfl ?_
   refine Zap rfl ?_
   refine ZhT ?_
   refine ZhT ?_
   refine ZhT ?_
   refine ZhT ?_
   refine ZhT ?_
   refine Zap rfl ?_
   refine ZaK rfl ?_
   refine Zab ?_
   refine Zaf ?_
   refine brT rfl ?_
   simp only[Zpp,b1,Bool.true_or]
   rfl
  |false=>
  cases b3:n==[48]
  rotate_left 1
  refine Zag ?_
  iterate 3 refine Zab ?_
  refine Zac b1 ?_
  refine Zac b1 ?_
  refine Zat b1 ?_
  refine Zab ?_
  refine Zac rfl ?_
  refine Zac rfl ?_
  refine Zac rfl ?_
  refine Zac b3 ?_
  refine Zac b3 ?_
  refine Zac b3 ?_
  refine Zac b3 ?_
  refine Zac b3 ?_
  refine ZbE rfl rfl rfl rfl rfl rfl b3 rfl rfl rfl ?_
  refine Zat rfl ?_
  refine Zab ?_
  refine Zaf ?_
  refine And.intro (fun h=> ?_) (fun h=> ?_)
  ·have h':m=true:=ha2.symm.trans h
   subst h'
   simp only[Zpp,b1]
   rfl
  have h':(true&&m)=false:=ha2.symm.trans h
  rotate_left 1
  refine Zag ?_
  iterate 3 refine Zab ?_
  refine Zac b1 ?_
  refine Zac b1 ?_
  refine Zat b1 ?_
  refine Zab ?_
  refine Zac rfl ?_
  refine Zac rfl ?_
  refine Zac rfl ?_
  refine Zap b3 ?_
  refine Zap b3 ?_
  refine Zap b3 ?_
  refine Zap b3 ?_
  refine Zap b3 ?_
  refine ZcS rfl rfl rfl rfl rfl rfl b3 rfl rfl rfl ?_
  refine Zat rfl ?_
  refine Zab ?_
  refine Zaf ?_
  refine brF rfl ?_
  have h':(false&&m)=false:=rfl
  all_goals
   cases b0:decide (E1=0)with
   |false=>
    have hn:(!decide (E1=0))=true:=by rw[b0];rfl
    refine Zag ?_
    iterate 3 refine Zab ?_
    refine Zap hn ?_
    refine Zap hn ?_
    refine ZaK hn ?_
    refine Zab ?_
    refine Zaf ?_
    refine brT hn ?_
    simp only[Zpp,b1,b0,h']
    rfl
   |true=>
    have hn:(!decide (E1=0))=false:=by rw[b0];rfl
    refine Zag ?_
    iterate 3 refine Zab ?_
    refine Zac hn ?_
    refine Zac hn ?_
    refine Zat hn ?_
    refine Zab ?_
    refine Zaf ?_
    refine brF rfl ?_
    refine brF rfl ?_
    simp only[Zpp,b1,b0,h']
    rfl
 |true=>
  simp only[Bool.true_and]at hBad hE2
  obtain⟨E2,hE2'⟩: ∃x,ZaL d=x:=⟨_,rfl⟩
  obtain⟨B,hB⟩: ∃x,Zw5 a=x:=⟨_,rfl⟩
  rw[hB]at hBad
  rw[hB,hE2,hE1,hE2']at hP
  rw[hE2']at hNd
  rw[hP,hE1]
  refine brT rfl ?_
  refine hNd.mono ?_
  rintro _ rfl
  cases b1:decide (E1=5)with
  |true=>
   refine Zag ?_
   iterate 3 refine Zab ?_
   refine Zap b1 ?_
   refine Zap b1 ?_
   refine ZaK b1 ?_
   refine Zab ?_
   refine Zap rfl ?_
   refine Zap rfl ?_
   refine Zap rfl ?_
   refine ZhT ?_
   refine ZhT ?_
   refine ZhT ?_
   refine ZhT ?_
   refine ZhT ?_
   refine Zap rfl ?_
   refine ZaK rfl ?_
   refine Zab ?_
   refine Zaf ?_
   refine brT rfl ?_
   simp only[Zpp,b1,Bool.true_or]
   rfl
  |false=>
  cases b2:decide (E2=5)with
  |true=>
   refine Zag ?_
   iterate 3 refine Zab ?_
   refine Zac b1 ?_
   refine Zac b1 ?_
   refine Zat b1 ?_
   refine Zab ?_
   refine Zap b2 ?_
   refine Zap b2 ?_
   refine Zap b2 ?_
   refine ZhT ?_
   refine ZhT ?_
   refine ZhT ?_
   refine ZhT ?_
   refine ZhT ?_
   refine Zap b2 ?_
   refine ZaK b2 ?_
   refine Zab ?_
   refine Zaf ?_
   refine brT b2 ?_
   simp only[Zpp,b1,b2]
   rfl
  |false=>
  cases b3:n==[48]
  rotate_left 1
  refine Zag ?_
  iterate 3 refine Zab ?_
  refine Zac b1 ?_
  refine Zac b1 ?_
  refine Zat b1 ?_
  refine Zab ?_
  refine Zac b2 ?_
  refine Zac b2 ?_
  refine Zac b2 ?_
  refine Zac b3 ?_
  refine Zac b3 ?_
  refine Zac b3 ?_
  refine Zac b3 ?_
  refine Zac b3 ?_
  refine ZbE rfl rfl rfl b2 rfl rfl b3 rfl rfl rfl ?_
  refine Zat b2 ?_
  refine Zab ?_
  refine Zaf ?_
  refine And.intro (fun h=> ?_) (fun h=> ?_)
  ·have h':m=true:=ha2.symm.trans h
   subst h'
   simp only[Zpp,b1,b2]
   rfl
  have h':(true&&m)=false:=ha2.symm.trans h
  rotate_left 1
  refine Zag ?_
  iterate 3 refine Zab ?_
  refine Zac b1 ?_
  refine Zac b1 ?_
  refine Zat b1 ?_
  refine Zab ?_
  refine Zac b2 ?_
  refine Zac b2 ?_
  refine Zac b2 ?_
  refine Zap b3 ?_
  refine Zap b3 ?_
  refine Zap b3 ?_
  refine Zap b3 ?_
  refine Zap b3 ?_
  refine ZcS rfl rfl rfl b2 rfl rfl b3 rfl rfl rfl ?_
  refine Zat b2 ?_
  refine Zab ?_
  refine Zaf ?_
  refine brF b3 ?_
  have h':(false&&m)=false:=rfl
  all_goals
   cases b0:decide (E1=0)with
   |false=>
    have hn:(!decide (E1=0))=true:=by rw[b0];rfl
    refine Zag ?_
    iterate 3 refine Zab ?_
    refine Zap hn ?_
    refine Zap hn ?_
    refine ZaK hn ?_
    refine Zab ?_
    refine Zaf ?_
    refine brT hn ?_
    simp only[Zpp,b1,b2,b0,h']
    rfl
   |true=>
   have hn:(!decide (E1=0))=false:=by rw[b0];rfl
   cases c0:decide (E2=0)with
   |false=>
    have hn2:(!decide (E2=0))=true:=by rw[c0];rfl
    refine Zag ?_
    iterate 3 refine Zab ?_
    refine Zac hn ?_
    refine Zac hn ?_
    refine Zat hn ?_
    refine Zab ?_
    refine Zaf ?_
    refine brT hn2 ?_
    simp only[Zpp,b1,b2,b0,c0,h']
    rfl
   |true=>
    have hn2:(!decide (E2=0))=false:=by rw[c0];rfl
    refine Zag ?_
    iterate 3 refine Zab ?_
    refine Zac hn ?_
    refine Zac hn ?_
    refine Zat hn ?_
    refine Zab ?_
    refine Zaf ?_
    refine brF hn2 ?_
    refine brT rfl ?_
    have z1:ZaL n=0:=hE1.trans (of_decide_eq_true b0)
    have z2:ZaL d=0:=hE2'.trans (of_decide_eq_true c0)
    have hGd:=ZxY hGc z1 z2
    obtain⟨cd,_⟩:=ZbU z2
    have q1:=ZzW cd
    have q2:=ZzA cd
    have q3:=ZzA (ZdG (Nat.gcd (dec n) (dec d)))
    rw[Zbj]at q3
    obtain⟨g,hg⟩: ∃x,decDigits (Nat.gcd (dec n) (dec d))=x:=⟨_,rfl⟩
    rw[hg]at q3 hGd
    rw[←q1,←q2,←q3]at hBad
    refine hGd.mono ?_
    rintro _ rfl
    cases d1:d==[48]with
    |true=>
     refine Zag ?_
     iterate 3 refine Zab ?_
     refine Zap d1 ?_
     refine Zap d1 ?_
     refine ZaK d1 ?_
     refine Zab ?_
     refine Zap rfl ?_
     refine Zap rfl ?_
     refine ZaK rfl ?_
     refine Zaf ?_
     refine brT rfl ?_
     rw[d1,Bool.true_or]at hBad
     simp only[Zpp,b1,b2,b0,c0,h',hBad]
     rfl
    |false=>
    cases d2:d==[49]with
    |true=>
     refine Zag ?_
     iterate 3 refine Zab ?_
     refine Zac d1 ?_
     refine Zac d1 ?_
     refine Zat d1 ?_
     refine Zab ?_
     refine Zap d2 ?_
     refine Zap d2 ?_
     refine ZaK d2 ?_
     refine Zaf ?_
     refine brT d2 ?_
     rw[d1,d2,Bool.false_or,Bool.true_or]at hBad
     simp only[Zpp,b1,b2,b0,c0,h',hBad]
     rfl
    |false=>
     refine Zag ?_
     iterate 3 refine Zab ?_
     refine Zac d1 ?_
     refine Zac d1 ?_
     refine Zat d1 ?_
     refine Zab ?_
     refine Zac d2 ?_
     refine Zac d2 ?_
     refine Zat d2 ?_
     refine Zaf ?_
     rw[d1,d2,Bool.false_or,Bool.false_or]at hBad
     refine And.intro (fun h=> ?_) (fun h=> ?_)
     ·have h2:(!(g==[49]))=true:=h
      simp only[Zpp,b1,b2,b0,c0,h',hBad,h2]
      rfl
     ·have h2:(!(g==[49]))=false:=h
      simp only[Zpp,b1,b2,b0,c0,h',hBad,h2]
      rfl
end Go.Proofs.YtkhpbclcfldhmaaGreatDoor

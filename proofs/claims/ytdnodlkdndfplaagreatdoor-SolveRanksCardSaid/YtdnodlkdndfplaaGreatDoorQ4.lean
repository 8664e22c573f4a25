/-
 nat.Gcd, for a seat without the other functions of package nat.
-/
import Derived.Test.YtdnodlkdndfplaaGreatDoorQ5
set_option linter.constructorNameAsVariable false
set_option linter.unusedSimpArgs false
set_option linter.unusedVariables false
namespace Go.Proofs.YtdnodlkdndfplaaGreatDoor
open Go.Am Go.Tx Dv Go.Lib
set_option maxRecDepth 100000
abbrev rs (x:List UInt8×Int):SV:= .tup [.v .s x.1, .v (.i .i64) x.2]
def Zw0 (a b:List UInt8) (x:List UInt8×Int):List UInt8×Int:=match decide (Zje a b=0)with
 |true=>x
 |false=>([],Zje a b)
theorem Zrv (a b:List UInt8) (hla:a.length≤9223372036854775806) (hlb:b.length≤9223372036854775806):(Zje a b=0∧PureOK Tryz.prog Zam 147 [.v .s a, .v .s b] (fun V=>V= .tup [IS (dec a:Nat),IS (dec b:Nat), .v (.i .i64) (0:Int)]))∨
 (Zje a b≠0∧PureOK Tryz.prog Zam 147 [.v .s a, .v .s b] (fun V=>V= .tup [.agg [.v .b false, .nils], .agg [.v .b false, .nils], .v (.i .i64) (Zje a b)])):=by
 have h:=ZA2 a b hla hlb
 cases hd:decide (Zje a b=0)with
 |true=>
  refine .inl ⟨of_decide_eq_true hd,h.mono ?_⟩
  rintro V rfl
  simp only[ZyJ,hd]
 |false=>
  refine .inr ⟨of_decide_eq_false hd,h.mono ?_⟩
  rintro V rfl
  simp only[ZyJ,hd]
theorem Zwn {a:List UInt8} (h:Zav a=0):ln (dec a:Nat)≤2000:=by
 rw[ln,Int.natAbs_natCast]
 exact Nat.le_trans (ZwJ (Za3 h).1.2.1) (Za3 h).2
theorem RxDoorQ41lt {n k m:Nat} (h:n<10^k) (hk:k≤m):n<10^m:=Nat.lt_of_lt_of_le h (Nat.pow_le_pow_right (by decide) hk)
theorem Zkm {a:List UInt8} (h:Zav a=0):dec a<10^2000:=RxDoorQ41lt (m:=2000) (ZbC (Za3 h).1.2.1) (Za3 h).2
set_option maxHeartbeats 4000000 in
theorem ZvC (a b:List UInt8) (hla:a.length≤9223372036854775806) (hlb:b.length≤9223372036854775806):PureOK Tryz.prog Zam 108 [.v .s a, .v .s b] (fun V=>V=rs (Zw0 a b (Zuf (Nat.gcd (dec a) (dec b))))):=by
 refine Zab Zaa Tryz.func108 ?_
 rcases Zrv a b hla hlb with⟨hE,h2⟩|⟨hE,h2⟩
 ·refine h2.mono ?_
  rintro _ rfl
  obtain⟨ea,eb⟩:=ZrX hE
  have la:=Zwn ea
  have lb:=Zwn eb
  have da:=Zkm ea
  have db:=Zkm eb
  have hd:decide (Zje a b=0)=true:=decide_eq_true hE
  refine And.intro rfl ?_
  refine And.intro rfl ?_
  refine And.intro (fun h=>absurd h (by decide)) (fun _=> ?_)
  refine And.intro rfl ?_
  refine And.intro rfl ?_
  refine(ZzU (dec a:Nat) (dec b:Nat) (by omega) (by omega)).mono ?_
  rintro _ rfl
  have ht:=ZzW (Nat.gcd (dec a) (dec b))
  refine ht.mono ?_
  rintro _ rfl
  simp only[Zw0,hd]
  rfl
 ·refine h2.mono ?_
  rintro _ rfl
  have hd:decide (Zje a b=0)=false:=decide_eq_false hE
  refine And.intro rfl ?_
  refine And.intro rfl ?_
  have hn:(!decide (Zje a b=0))=true:=by rw[hd];rfl
  refine And.intro (fun _=> ?_) (fun h=>(nf hn h).elim)
  show _=rs (Zw0 a b (Zuf (Nat.gcd (dec a) (dec b))))
  simp only[Zw0,hd]
end Go.Proofs.YtdnodlkdndfplaaGreatDoor
/-
 rat.Check, CheckAll.
-/
namespace Go.Proofs.YtdnodlkdndfplaaGreatDoor
open Go.Am Go.Tx Dv Go.Lib
set_option maxRecDepth 100000
theorem Zuy (a:List UInt8):Zm1 a [45]=Zkj a:=by
 cases a with
 |nil=>rfl
 |cons b l=>
  show(decide (((1:Nat):Int)≤((b::l).length:Int))&&((b::l).take 1==[45]))=(some b==some 45)
  rw[decide_eq_true (by simp only[List.length_cons];omega),Bool.true_and]
  show([b]==[45])=_
  rw[Bool.eq_iff_iff]
  simp
theorem ZyP (a:List UInt8):PureOK Tryz.prog Zam 105 [.v .s a, .v .s [45]] (fun V=>V= .v .s (Zf2 a)):=by
 refine(Zhq a [45]).mono ?_
 rintro _ rfl
 rw[Zuy,Zf2]
 cases Zkj a<;>rfl
theorem Zzg (m n B:Nat) (hm:m<B) (hn:n<B):Nat.gcd m n<B:=by
 rcases Nat.eq_zero_or_pos n with h|h
 ·subst h;rw[Nat.gcd_zero_right];exact hm
 ·exact Nat.lt_of_le_of_lt (Nat.gcd_le_right m h) hn
theorem ZzE {n d:List UInt8} (h:PureOK Tryz.prog Zam 108 [.v .s n, .v .s d] (fun V=>V=rs (Zw0 n d (Zuf (Nat.gcd (dec n) (dec d)))))) (z1:Zav n=0) (z2:Zav d=0):PureOK Tryz.prog Zam 108 [.v .s n, .v .s d] (fun V=>V=rs (decDigits (Nat.gcd (dec n) (dec d)),0)):=by
 have hE:Zje n d=0:=by simp only[Zje,z1,decide_true,z2]
 have e:Zw0 n d (Zuf (Nat.gcd (dec n) (dec d)))=(decDigits (Nat.gcd (dec n) (dec d)),0):=by
  unfold Zw0
  rw[decide_eq_true hE,ZqS (Zzg _ _ _ (Zkm z1) (Zkm z2))]
 rw[e]at h
 exact h
set_option maxHeartbeats 8000000 in
theorem Zu8 (a:List UInt8) (hl:a.length≤9223372036854775806):PureOK Tryz.prog Zam 48 [.v .s a] (fun V=>V= .v (.i .i64) (ZbD a)):=by
 refine Zab Zaa Tryz.func48 ?_
 have hT:=ZyP a
 obtain⟨ha1,ha2⟩:=ZsO a
 obtain⟨hc1,hc2⟩:=Ztt (Zf2 a) 47
 have hC:=Zzh (Zf2 a) 47 (by omega)
 have hP:=Zhd a
 have hBad:Zwg a=(rIs a&&(decide (dec (Zlu a)=0)||(decide (dec (Zlu a)=1)|| !decide (Nat.gcd (dec (ZfP a)) (dec (Zlu a))=1)))):=rfl
 have hE2:rE2 a=match rIs a with|true=>Zav (Zlu a)|false=>0:=rfl
 have e1:ZfP a=(Zc7 (Zf2 a) 47).1:=rfl
 have e2:Zlu a=(Zc7 (Zf2 a) 47).2.1:=rfl
 have e3:rIs a=(Zc7 (Zf2 a) 47).2.2:=rfl
 obtain⟨s,hs⟩: ∃s,Zf2 a=s:=⟨_,rfl⟩
 obtain⟨⟨n,d,is⟩,hcut⟩: ∃x,Zc7 (Zf2 a) 47=x:=⟨_,rfl⟩
 rw[hcut]at hC e1 e2 e3 hc1 hc2
 rw[hs]at hC hT ha1 ha2 hc1 hc2
 simp only at e1 e2 e3 hc1 hc2
 rw[e1]at hP hBad
 rw[e2]at hBad hE2
 rw[e3]at hBad hE2
 have hNn:=ZkB n (by omega)
 have hNd:=ZkB d (by omega)
 have hGc:=ZvC n d (by omega) (by omega)
 obtain⟨m,hm⟩: ∃m,Zkj a=m:=⟨_,rfl⟩
 rw[hm]at ha2 hP
 refine hT.mono ?_
 rintro _ rfl
 refine hC.mono ?_
 rintro _ rfl
 refine hNn.mono ?_
 rintro _ rfl
 obtain⟨E1,hE1⟩: ∃x,Zav n=x:=⟨_,rfl⟩
 cases is with
 |false=>
  simp only[Bool.false_and]at hBad hE2
  rw[hBad,hE2,hE1]at hP
  rw[hP,hE1]
  refine brF rfl ?_
  cases b1:decide (E1=5)with
  |true=>
   refine Zat ?_
   iterate 3 refine Zah ?_
   refine ZaH b1 ?_
   refine ZaH b1 ?_
   refine Zbb b1 ?_
   refine Zah ?_
   refine ZaH rfl ?_
   refine ZaH rfl ?_
   refine ZaH rfl ?_
   refine Ze6 ?_
   refine Ze6 ?_
   refine Ze6 ?_
   refine Ze6 ?_
   refine Ze6 ?_
   refine ZaH rfl ?_
   refine Zbb rfl ?_
   refine Zah ?_
   refine Zas ?_
   refine brT rfl ?_
   simp only[Zgv,b1,Bool.true_or]
   rfl
  |false=>
  cases b3:n==[48]
  rotate_left 1
  refine Zat ?_
  iterate 3 refine Zah ?_
  refine Zaf b1 ?_
  refine Zaf b1 ?_
  refine ZaS b1 ?_
  refine Zah ?_
  refine Zaf rfl ?_
  refine Zaf rfl ?_
  refine Zaf rfl ?_
  refine Zaf b3 ?_
  refine Zaf b3 ?_
  refine Zaf b3 ?_
  refine Zaf b3 ?_
  refine Zaf b3 ?_
  refine ZcI rfl rfl rfl rfl rfl rfl b3 rfl rfl rfl ?_
  refine ZaS rfl ?_
  refine Zah ?_
  refine Zas ?_
  refine And.intro (fun h=> ?_) (fun h=> ?_)
  ·have h':m=true:=ha2.symm.trans h
   subst h'
   simp only[Zgv,b1]
   rfl
  have h':(true&&m)=false:=ha2.symm.trans h
  rotate_left 1
  refine Zat ?_
  iterate 3 refine Zah ?_
  refine Zaf b1 ?_
  refine Zaf b1 ?_
  refine ZaS b1 ?_
  refine Zah ?_
  refine Zaf rfl ?_
  refine Zaf rfl ?_
  refine Zaf rfl ?_
  refine ZaH b3 ?_
  refine ZaH b3 ?_
  refine ZaH b3 ?_
  refine ZaH b3 ?_
  refine ZaH b3 ?_
  refine Zef rfl rfl rfl rfl rfl rfl b3 rfl rfl rfl ?_
  refine ZaS rfl ?_
  refine Zah ?_
  refine Zas ?_
  refine brF rfl ?_
  have h':(false&&m)=false:=rfl
  all_goals
   cases b0:decide (E1=0)with
   |false=>
    have hn:(!decide (E1=0))=true:=by rw[b0];rfl
    refine Zat ?_
    iterate 3 refine Zah ?_
    refine ZaH hn ?_
    refine ZaH hn ?_
    refine Zbb hn ?_
    refine Zah ?_
    refine Zas ?_
    refine brT hn ?_
    simp only[Zgv,b1,b0,h']
    rfl
   |true=>
    have hn:(!decide (E1=0))=false:=by rw[b0];rfl
    refine Zat ?_
    iterate 3 refine Zah ?_
    refine Zaf hn ?_
    refine Zaf hn ?_
    refine ZaS hn ?_
    refine Zah ?_
    refine Zas ?_
    refine brF rfl ?_
    refine brF rfl ?_
    simp only[Zgv,b1,b0,h']
    rfl
 |true=>
  simp only[Bool.true_and]at hBad hE2
  obtain⟨E2,hE2'⟩: ∃x,Zav d=x:=⟨_,rfl⟩
  obtain⟨B,hB⟩: ∃x,Zwg a=x:=⟨_,rfl⟩
  rw[hB]at hBad
  rw[hB,hE2,hE1,hE2']at hP
  rw[hE2']at hNd
  rw[hP,hE1]
  refine brT rfl ?_
  refine hNd.mono ?_
  rintro _ rfl
  cases b1:decide (E1=5)with
  |true=>
   refine Zat ?_
   iterate 3 refine Zah ?_
   refine ZaH b1 ?_
   refine ZaH b1 ?_
   refine Zbb b1 ?_
   refine Zah ?_
   refine ZaH rfl ?_
   refine ZaH rfl ?_
   refine ZaH rfl ?_
   refine Ze6 ?_
   refine Ze6 ?_
   refine Ze6 ?_
   refine Ze6 ?_
   refine Ze6 ?_
   refine ZaH rfl ?_
   refine Zbb rfl ?_
   refine Zah ?_
   refine Zas ?_
   refine brT rfl ?_
   simp only[Zgv,b1,Bool.true_or]
   rfl
  |false=>
  cases b2:decide (E2=5)with
  |true=>
   refine Zat ?_
   iterate 3 refine Zah ?_
   refine Zaf b1 ?_
   refine Zaf b1 ?_
   refine ZaS b1 ?_
   refine Zah ?_
   refine ZaH b2 ?_
   refine ZaH b2 ?_
   refine ZaH b2 ?_
   refine Ze6 ?_
   refine Ze6 ?_
   refine Ze6 ?_
   refine Ze6 ?_
   refine Ze6 ?_
   refine ZaH b2 ?_
   refine Zbb b2 ?_
   refine Zah ?_
   refine Zas ?_
   refine brT b2 ?_
   simp only[Zgv,b1,b2]
   rfl
  |false=>
  cases b3:n==[48]
  rotate_left 1
  refine Zat ?_
  iterate 3 refine Zah ?_
  refine Zaf b1 ?_
  refine Zaf b1 ?_
  refine ZaS b1 ?_
  refine Zah ?_
  refine Zaf b2 ?_
  refine Zaf b2 ?_
  refine Zaf b2 ?_
  refine Zaf b3 ?_
  refine Zaf b3 ?_
  refine Zaf b3 ?_
  refine Zaf b3 ?_
  refine Zaf b3 ?_
  refine ZcI rfl rfl rfl b2 rfl rfl b3 rfl rfl rfl ?_
  refine ZaS b2 ?_
  refine Zah ?_
  refine Zas ?_
  refine And.intro (fun h=> ?_) (fun h=> ?_)
  ·have h':m=true:=ha2.symm.trans h
   subst h'
   simp only[Zgv,b1,b2]
   rfl
  have h':(true&&m)=false:=ha2.symm.trans h
  rotate_left 1
  refine Zat ?_
  iterate 3 refine Zah ?_
  refine Zaf b1 ?_
  refine Zaf b1 ?_
  refine ZaS b1 ?_
  refine Zah ?_
  refine Zaf b2 ?_
  refine Zaf b2 ?_
  refine Zaf b2 ?_
  refine ZaH b3 ?_
  refine ZaH b3 ?_
  refine ZaH b3 ?_
  refine ZaH b3 ?_
  refine ZaH b3 ?_
  refine Zef rfl rfl rfl b2 rfl rfl b3 rfl rfl rfl ?_
  refine ZaS b2 ?_
  refine Zah ?_
  refine Zas ?_
  refine brF b3 ?_
  have h':(false&&m)=false:=rfl
  all_goals
   cases b0:decide (E1=0)with
   |false=>
    have hn:(!decide (E1=0))=true:=by rw[b0];rfl
    refine Zat ?_
    iterate 3 refine Zah ?_
    refine ZaH hn ?_
    refine ZaH hn ?_
    refine Zbb hn ?_
    refine Zah ?_
    refine Zas ?_
    refine brT hn ?_
    simp only[Zgv,b1,b2,b0,h']
    rfl
   |true=>
   have hn:(!decide (E1=0))=false:=by rw[b0];rfl
   cases c0:decide (E2=0)with
   |false=>
    have hn2:(!decide (E2=0))=true:=by rw[c0];rfl
    refine Zat ?_
    iterate 3 refine Zah ?_
    refine Zaf hn ?_
    refine Zaf hn ?_
    refine ZaS hn ?_
    refine Zah ?_
    refine Zas ?_
    refine brT hn2 ?_
    simp only[Zgv,b1,b2,b0,c0,h']
    rfl
   |true=>
    have hn2:(!decide (E2=0))=false:=by rw[c0];rfl
    refine Zat ?_
    iterate 3 refine Zah ?_
    refine Zaf hn ?_
    refine Zaf hn ?_
    refine ZaS hn ?_
    refine Zah ?_
    refine Zas ?_
    refine brF hn2 ?_
    refine brT rfl ?_
    have z1:Zav n=0:=hE1.trans (of_decide_eq_true b0)
    have z2:Zav d=0:=hE2'.trans (of_decide_eq_true c0)
    have hGd:=ZzE hGc z1 z2
    obtain⟨cd,_⟩:=Za3 z2
    have q1:=ZBm cd
    have q2:=ZyK cd
    have q3:=ZyK (Za5 (Nat.gcd (dec n) (dec d)))
    rw[Zan]at q3
    obtain⟨g,hg⟩: ∃x,decDigits (Nat.gcd (dec n) (dec d))=x:=⟨_,rfl⟩
    rw[hg]at q3 hGd
    rw[←q1,←q2,←q3]at hBad
    refine hGd.mono ?_
    rintro _ rfl
    cases d1:d==[48]with
    |true=>
     refine Zat ?_
     iterate 3 refine Zah ?_
     refine ZaH d1 ?_
     refine ZaH d1 ?_
     refine Zbb d1 ?_
     refine Zah ?_
     refine ZaH rfl ?_
     refine ZaH rfl ?_
     refine Zbb rfl ?_
     refine Zas ?_
     refine brT rfl ?_
     rw[d1,Bool.true_or]at hBad
     simp only[Zgv,b1,b2,b0,c0,h',hBad]
     rfl
    |false=>
    cases d2:d==[49]with
    |true=>
     refine Zat ?_
     iterate 3 refine Zah ?_
     refine Zaf d1 ?_
     refine Zaf d1 ?_
     refine ZaS d1 ?_
     refine Zah ?_
     refine ZaH d2 ?_
     refine ZaH d2 ?_
     refine Zbb d2 ?_
     refine Zas ?_
     refine brT d2 ?_
     rw[d1,d2,Bool.false_or,Bool.true_or]at hBad
     simp only[Zgv,b1,b2,b0,c0,h',hBad]
     rfl
    |false=>
     refine Zat ?_
     iterate 3 refine Zah ?_
     refine Zaf d1 ?_
     refine Zaf d1 ?_
     refine ZaS d1 ?_
     refine Zah ?_
     refine Zaf d2 ?_
     refine Zaf d2 ?_
     refine ZaS d2 ?_
     refine Zas ?_
     rw[d1,d2,Bool.false_or,Bool.false_or]at hBad
     refine And.intro (fun h=> ?_) (fun h=> ?_)
     ·have h2:(!(g==[49]))=true:=h
      simp only[Zgv,b1,b2,b0,c0,h',hBad,h2]
      rfl
     ·have h2:(!(g==[49]))=false:=h
      simp only[Zgv,b1,b2,b0,c0,h',hBad,h2]
      rfl
end Go.Proofs.YtdnodlkdndfplaaGreatDoor
/-
 The package rat: CheckAll, Add, Sub, Mul, Div, Neg, Compare, Sign, Of.
-/
namespace Go.Proofs.YtdnodlkdndfplaaGreatDoor
open Go.Am Go.Tx Dv Go.Lib
set_option maxRecDepth 100000
set_option maxHeartbeats 4000000 in
theorem ZqD (l:List (List UInt8)) (hl:l.length≤1000000000) (hs: ∀a∈l,a.length≤9223372036854775806):PureOK Tryz.prog Zam 101 [.v (.l .s) l] (fun V=>V= .v (.i .i64) (Zfo l)):=by
 refine Zab Zaa Tryz.func101 ?_
 refine Zap Zaa rfl (fun(i:Nat)=> [(0, .v (.l .s) l),(6, .v (.l .s) l),(7, .v (.i .i64) (l.length:Int)),(8, .v (.i .i64) (i:Int))]) (fun _=> [])
  (fun i=>i≤l.length∧Zfo (l.drop i)=Zfo l) (fun i=>l.length-i) ?_ 0 ?_ ?_
 ·rintro i ⟨hi,he⟩
  refine And.intro (fun h=> ?_) (fun h=> ?_)
  ·have hlt:i<l.length:=by have h':(i:Int)<(l.length:Int):=of_decide_eq_true h;omega
   obtain⟨x,hx⟩: ∃x,l[i]=x:=⟨_,rfl⟩
   have gx:l[(i:Int).toNat]? =some x:=by rw[Int.toNat_natCast,List.getElem?_eq_getElem hlt,hx]
   have hxl:=hs x (hx▸List.getElem_mem hlt)
   rw[List.drop_eq_getElem_cons hlt,hx,Zfo]at he
   refine⟨x,Int.natCast_nonneg i,gx, ?_⟩
   refine(Zu8 x hxl).mono ?_
   rintro _ rfl
   refine And.intro (fun h2=> ?_) (fun h2=> ?_)
   ·have h2':(!decide (ZbD x=0))=true:=h2
    have hd:decide (ZbD x=0)=false:=by cases hd:decide (ZbD x=0)<;>simp[hd]at h2'⊢
    rw[hd]at he
    exact congrArg (SV.v (.i .i64)) he
   ·have h2':(!decide (ZbD x=0))=false:=h2
    have hd:decide (ZbD x=0)=true:=by cases hd:decide (ZbD x=0)<;>simp[hd]at h2'⊢
    rw[hd]at he
    have wi:IntKind.i64.wrap ((i:Int)+1)=((i+1:Nat):Int):=Zae (by omega) (by omega)
    refine⟨i+1,⟨hlt,he⟩,by show l.length-(i+1)<l.length-i;omega, ?_⟩
    refine Zal rfl rfl ?_ ?_
    ·exact⟨rfl,rfl,rfl,wi.symm,trivial⟩
    ·exact trivial
  ·have hi2:i=l.length:=by have h': ¬ (i:Int)<(l.length:Int):=of_decide_eq_false h;omega
   rw[List.drop_of_length_le (by omega)]at he
   exact congrArg (SV.v (.i .i64)) he
 ·exact⟨Nat.zero_le _,rfl⟩
 ·refine Zal rfl rfl ?_ ?_
  ·exact⟨rfl,rfl,rfl,rfl,trivial⟩
  ·exact trivial
theorem ZpL (m:Bool) (n:Nat) (hl:(decDigits n).length≤300000000):PureOK Tryz.prog Zam 109 [.v .s (mns m (decDigits n))] (fun V=>V=IS (sg m (n:Int))):=by
 have h:=Zr5 m (decDigits n) (ZaK n) hl
 rw[Zan]at h
 have e:ZrW m (decDigits n)=mns m (decDigits n):=by cases m<;>rfl
 rw[e]at h
 exact h
set_option maxHeartbeats 4000000 in
theorem ZxB (q:Rat) (h:Zri q=true):PureOK Tryz.prog Zam 49 [.v .s (Zbj q)] (fun V=>V=QR q):=by
 obtain⟨h1,h2⟩:=Zfu.1 h
 have hl:=Zxj h
 have hC:=Zzh (Zbj q) 47 (by omega)
 have hc:Zc7 (Zbj q) 47=match decide (q.den=1)with
  |true=>(mns (decide (q.num<0)) (decDigits q.num.natAbs),[],false)
  |false=>(mns (decide (q.num<0)) (decDigits q.num.natAbs),decDigits q.den,true):=Zx4 _ _ _
 have hN:=ZpL (decide (q.num<0)) q.num.natAbs (by omega)
 rw[Zjz]at hN
 have hD:=ZpL false q.den (by omega)
 refine Zab Zaa Tryz.func49 ?_
 cases hd:decide (q.den=1)with
 |true=>
  rw[hd]at hc
  simp only at hc
  rw[hc]at hC
  have h1:q.den=1:=of_decide_eq_true hd
  refine hC.mono ?_
  rintro _ rfl
  refine And.intro (fun _=> ?_) (fun h=>nomatch h)
  refine hN.mono ?_
  rintro _ rfl
  refine(ZAi 1 (by decide) (by decide)).mono ?_
  rintro _ rfl
  refine And.intro rfl ?_
  refine And.intro rfl ?_
  show QS q.num ((1:Nat):Int)=QS q.num (q.den:Int)
  rw[h1]
 |false=>
  rw[hd]at hc
  simp only at hc
  rw[hc]at hC
  refine hC.mono ?_
  rintro _ rfl
  refine And.intro (fun h=>nomatch h) (fun _=> ?_)
  refine hN.mono ?_
  rintro _ rfl
  refine hD.mono ?_
  rintro _ rfl
  refine And.intro rfl ?_
  refine And.intro rfl ?_
  rfl
end Go.Proofs.YtdnodlkdndfplaaGreatDoor
/-
 The reference's decimal arithmetic in plain Lean: digits, the least one first.
-/
namespace Dv
open Go Go.Lib
def dv:List Int→Int
 | []=>0
 |d::l=>d+10*dv l
theorem ZjT: ∀ (l:List Int) (d:Int),dv (l++ [d])=dv l+10^l.length*d
 | [],d=>by simp[dv]
 |x::l,d=>by
  simp only[List.cons_append,dv,ZjT l d,List.length_cons,Int.pow_succ]
  grind
def D9 (l:List Int):Prop:= ∀d∈l,0≤d∧d≤9
theorem ZlX: ∀ {l:List Int},(∀d∈l,0≤d)→0≤dv l
 | [],_=>Int.le_refl _
 |x::l,h=>by
  have h1:=h x List.mem_cons_self
  have h2:=ZlX (l:=l) fun y hy=>h y (List.mem_cons_of_mem _ hy)
  simp only[dv];omega
theorem ZyT: ∀ {l:List Int},D9 l→dv l<10^l.length
 | [],_=>by simp[dv]
 |x::l,h=>by
  have h1:=h x List.mem_cons_self
  have h2:=ZyT (l:=l) fun y hy=>h y (List.mem_cons_of_mem _ hy)
  simp only[dv,List.length_cons,Int.pow_succ];omega
theorem Zx3 {l:List Int} {i:Nat} (h:i<l.length):dv (l.take (i+1))=dv (l.take i)+10^i*l[i]:=by
 rw[List.take_succ_eq_append_getElem h,ZjT,List.length_take,Nat.min_eq_left (Nat.le_of_lt h)]
theorem Zo7: ∀ {l:List Int} {i:Nat} {x:Int} (h:i<l.length),dv (l.set i x)=dv l+10^i*(x-l[i])
 | [],i,x,h=>by simp at h
 |y::l,0,x,_=>by simp only[List.set_cons_zero,dv,List.getElem_cons_zero,Int.pow_zero];omega
 |y::l,i+1,x,h=>by
  have ih:=Zo7 (l:=l) (i:=i) (x:=x) (by simpa using h)
  simp only[List.set_cons_succ,dv,List.getElem_cons_succ,ih,Int.pow_succ]
  grind
def Zhz (l:List Int):List UInt8:=l.reverse.map fun d=>UInt8.ofNat (48+d).toNat
theorem Zmq: ∀ {l:List Int},D9 l→Dg (Zhz l)∧((dec (Zhz l):Nat):Int)=dv l∧(Zhz l).length=l.length
 | [],_=>⟨fun c hc=>by simp[Zhz]at hc,rfl,rfl⟩
 |d::l,h=>by
  have h1:=h d List.mem_cons_self
  obtain⟨h2,h3,h4⟩:=Zmq (l:=l) fun y hy=>h y (List.mem_cons_of_mem _ hy)
  have e:Zhz (d::l)=Zhz l++ [UInt8.ofNat (48+d).toNat]:=by simp[Zhz]
  have e2:(48+d).toNat=48+d.toNat:=by omega
  have e3:(UInt8.ofNat (48+d).toNat).toNat=48+d.toNat:=by rw[e2];exact Zc8 (by omega)
  rw[e]
  refine⟨h2.app ?_, ?_,by simp[h4]⟩
  ·intro c hc
   rw[List.mem_singleton.1 hc,e3];omega
  ·rw[ZeF,e3,Int.natCast_add,Int.natCast_mul,h3]
   simp only[dv]
   omega
theorem ZtN {s:List UInt8} (h:Dg s) {k:Nat} (hk:k<s.length):(s[s.length-1-k]'(by omega)).toNat-48=dec s/10^k % 10:=by
 have e:s=s.take (s.length-1-k)++(s[s.length-1-k]'(by omega)::s.drop (s.length-1-k+1)):=by
  rw[←List.drop_eq_getElem_cons,List.take_append_drop]
 have hd:Dg (s.drop (s.length-1-k+1)):=fun c hc=>h c (List.mem_of_mem_drop hc)
 have hl:(s.drop (s.length-1-k+1)).length=k:=by rw[List.length_drop];omega
 have hlt:=ZbC hd
 rw[hl]at hlt
 have hc:=h _ (List.getElem_mem (show s.length-1-k<s.length by omega))
 have hv:dec s=(dec (s.take (s.length-1-k))*10+((s[s.length-1-k]'(by omega)).toNat-48))*10^k+dec (s.drop (s.length-1-k+1)):=by
  conv=>lhs;rw[e]
  rw[Zks,Zcf,List.length_cons,hl,Nat.pow_succ]
  grind
 rw[hv,Nat.add_comm,Nat.add_mul_div_right _ _ (Nat.pow_pos (by decide)),Nat.div_eq_of_lt hlt,Nat.zero_add]
 omega
theorem Zbh {s:List UInt8} (h:Dg s) {k:Nat} (hk:s.length≤k):dec s/10^k % 10=0:=by
 have h1:=ZbC h
 have h2:=Nat.pow_le_pow_right (show 0<10 by decide) hk
 rw[Nat.div_eq_of_lt (by omega)]
theorem Zce (n k:Nat):n % 10^(k+1)=n % 10^k+10^k*(n/10^k % 10):=by
 rw[Nat.pow_succ,Nat.mod_mul]
end Dv

/-
 nat.Gcd, for a seat without the other functions of package nat.
-/
import Derived.Test.YtdnodlkdndfplaaGreatDoorQ5
set_option linter.constructorNameAsVariable false
set_option linter.unusedSimpArgs false
set_option linter.unusedVariables false
namespace Go.Proofs.YtdnodlkdndfplaaGreatDoor
open Go.Am Go.Tx Dv Go.Lib
set_option maxRecDepth 100000
abbrev rs (x:List UInt8×Int):SV:= .tup [.v .s x.1, .v (.i .i64) x.2]
def ZxV (a b:List UInt8) (x:List UInt8×Int):List UInt8×Int:=match decide (ZjF a b=0)with
 |true=>x
 |false=>([],ZjF a b)
theorem ZuH (a b:List UInt8) (hla:a.length≤9223372036854775806) (hlb:b.length≤9223372036854775806):(ZjF a b=0∧PureOK Tryz.prog Zan 147 [.v .s a, .v .s b] (fun V=>V= .tup [IS (dec a:Nat),IS (dec b:Nat), .v (.i .i64) (0:Int)]))∨
 (ZjF a b≠0∧PureOK Tryz.prog Zan 147 [.v .s a, .v .s b] (fun V=>V= .tup [.agg [.v .b false, .nils], .agg [.v .b false, .nils], .v (.i .i64) (ZjF a b)])):=by
 have h:=ZBW a b hla hlb
 cases hd:decide (ZjF a b=0)with
 |true=>
  refine .inl ⟨of_decide_eq_true hd,h.mono ?_⟩
  rintro V rfl
  simp only[Zzl,hd]
 |false=>
  refine .inr ⟨of_decide_eq_false hd,h.mono ?_⟩
  rintro V rfl
  simp only[Zzl,hd]
theorem Zw1 {a:List UInt8} (h:Zay a=0):ln (dec a:Nat)≤2000:=by
 rw[ln,Int.natAbs_natCast]
 exact Nat.le_trans (Zw4 (Za6 h).1.2.1) (Za6 h).2
theorem RxDoorQ41lt {n k m:Nat} (h:n<10^k) (hk:k≤m):n<10^m:=Nat.lt_of_lt_of_le h (Nat.pow_le_pow_right (by decide) hk)
theorem Zk4 {a:List UInt8} (h:Zay a=0):dec a<10^2000:=RxDoorQ41lt (m:=2000) (ZbJ (Za6 h).1.2.1) (Za6 h).2
set_option maxHeartbeats 4000000 in
theorem Zvi (a b:List UInt8) (hla:a.length≤9223372036854775806) (hlb:b.length≤9223372036854775806):PureOK Tryz.prog Zan 108 [.v .s a, .v .s b] (fun V=>V=rs (ZxV a b (ZuK (Nat.gcd (dec a) (dec b))))):=by
 refine Zac Zaa Tryz.func108 ?_
 rcases ZuH a b hla hlb with⟨hE,h2⟩|⟨hE,h2⟩
 ·refine h2.mono ?_
  rintro _ rfl
  obtain⟨ea,eb⟩:=ZsE hE
  have la:=Zw1 ea
  have lb:=Zw1 eb
  have da:=Zk4 ea
  have db:=Zk4 eb
  have hd:decide (ZjF a b=0)=true:=decide_eq_true hE
  refine And.intro rfl ?_
  refine And.intro rfl ?_
  refine And.intro (fun h=>absurd h (by decide)) (fun _=> ?_)
  refine And.intro rfl ?_
  refine And.intro rfl ?_
  refine(ZzI (dec a:Nat) (dec b:Nat) (by omega) (by omega)).mono ?_
  rintro _ rfl
  have ht:=ZzM (Nat.gcd (dec a) (dec b))
  refine ht.mono ?_
  rintro _ rfl
  simp only[ZxV,hd]
  rfl
 ·refine h2.mono ?_
  rintro _ rfl
  have hd:decide (ZjF a b=0)=false:=decide_eq_false hE
  refine And.intro rfl ?_
  refine And.intro rfl ?_
  have hn:(!decide (ZjF a b=0))=true:=by rw[hd];rfl
  refine And.intro (fun _=> ?_) (fun h=>(nf hn h).elim)
  show _=rs (ZxV a b (ZuK (Nat.gcd (dec a) (dec b))))
  simp only[ZxV,hd]
end Go.Proofs.YtdnodlkdndfplaaGreatDoor
/-
 rat.Check, CheckAll.
-/
namespace Go.Proofs.YtdnodlkdndfplaaGreatDoor
open Go.Am Go.Tx Dv Go.Lib
set_option maxRecDepth 100000
theorem ZvT (a:List UInt8):ZnB a [45]=Zlz a:=by
 cases a with
 |nil=>rfl
 |cons b l=>
  show(decide (((1:Nat):Int)≤((b::l).length:Int))&&((b::l).take 1==[45]))=(some b==some 45)
  rw[decide_eq_true (by simp only[List.length_cons];omega),Bool.true_and]
  show([b]==[45])=_
  rw[Bool.eq_iff_iff]
  simp
theorem ZAr (a:List UInt8):PureOK Tryz.prog Zan 105 [.v .s a, .v .s [45]] (fun V=>V= .v .s (Zf0 a)):=by
 refine(Zho a [45]).mono ?_
 rintro _ rfl
 rw[ZvT,Zf0]
 cases Zlz a<;>rfl
theorem ZAg (m n B:Nat) (hm:m<B) (hn:n<B):Nat.gcd m n<B:=by
 rcases Nat.eq_zero_or_pos n with h|h
 ·subst h;rw[Nat.gcd_zero_right];exact hm
 ·exact Nat.lt_of_le_of_lt (Nat.gcd_le_right m h) hn
theorem ZzS {n d:List UInt8} (h:PureOK Tryz.prog Zan 108 [.v .s n, .v .s d] (fun V=>V=rs (ZxV n d (ZuK (Nat.gcd (dec n) (dec d)))))) (z1:Zay n=0) (z2:Zay d=0):PureOK Tryz.prog Zan 108 [.v .s n, .v .s d] (fun V=>V=rs (decDigits (Nat.gcd (dec n) (dec d)),0)):=by
 have hE:ZjF n d=0:=by simp only[ZjF,z1,decide_true,z2]
 have e:ZxV n d (ZuK (Nat.gcd (dec n) (dec d)))=(decDigits (Nat.gcd (dec n) (dec d)),0):=by
  unfold ZxV
  rw[decide_eq_true hE,Zrd (ZAg _ _ _ (Zk4 z1) (Zk4 z2))]
 rw[e]at h
 exact h
set_option maxHeartbeats 8000000 in
theorem Zwc (a:List UInt8) (hl:a.length≤9223372036854775806):PureOK Tryz.prog Zan 48 [.v .s a] (fun V=>V= .v (.i .i64) (ZbK a)):=by
 refine Zac Zaa Tryz.func48 ?_
 have hT:=ZAr a
 obtain⟨ha1,ha2⟩:=Zue a
 obtain⟨hc1,hc2⟩:=ZsF (Zf0 a) 47
 have hC:=ZzZ (Zf0 a) 47 (by omega)
 have hP:=Zht a
 have hBad:Zw5 a=(rIs a&&(decide (dec (Zmy a)=0)||(decide (dec (Zmy a)=1)|| !decide (Nat.gcd (dec (Zgc a)) (dec (Zmy a))=1)))):=rfl
 have hE2:rE2 a=match rIs a with|true=>Zay (Zmy a)|false=>0:=rfl
 have e1:Zgc a=(Zdf (Zf0 a) 47).1:=rfl
 have e2:Zmy a=(Zdf (Zf0 a) 47).2.1:=rfl
 have e3:rIs a=(Zdf (Zf0 a) 47).2.2:=rfl
 obtain⟨s,hs⟩: ∃s,Zf0 a=s:=⟨_,rfl⟩
 obtain⟨⟨n,d,is⟩,hcut⟩: ∃x,Zdf (Zf0 a) 47=x:=⟨_,rfl⟩
 rw[hcut]at hC e1 e2 e3 hc1 hc2
 rw[hs]at hC hT ha1 ha2 hc1 hc2
 simp only at e1 e2 e3 hc1 hc2
 rw[e1]at hP hBad
 rw[e2]at hBad hE2
 rw[e3]at hBad hE2
 have hNn:=ZlD n (by omega)
 have hNd:=ZlD d (by omega)
 have hGc:=Zvi n d (by omega) (by omega)
 obtain⟨m,hm⟩: ∃m,Zlz a=m:=⟨_,rfl⟩
 rw[hm]at ha2 hP
 refine hT.mono ?_
 rintro _ rfl
 refine hC.mono ?_
 rintro _ rfl
 refine hNn.mono ?_
 rintro _ rfl
 obtain⟨E1,hE1⟩: ∃x,Zay n=x:=⟨_,rfl⟩
 cases is with
 |false=>
  simp only[Bool.false_and]at hBad hE2
  rw[hBad,hE2,hE1]at hP
  rw[hP,hE1]
  refine brF rfl ?_
  cases b1:decide (E1=5)with
  |true=>
   refine Zas ?_
   iterate 3 refine Zad ?_
   refine ZaL b1 ?_
   refine ZaL b1 ?_
   refine ZaY b1 ?_
   refine Zad ?_
   refine ZaL rfl ?_
   refine ZaL rfl ?_
   refine ZaL rfl ?_
   refine ZgC ?_
   refine ZgC ?_
   refine ZgC ?_
   refine ZgC ?_
   refine ZgC ?_
   refine ZaL rfl ?_
   refine ZaY rfl ?_
   refine Zad ?_
   refine Zaq ?_
   refine brT rfl ?_
   simp only[Zg9,b1,Bool.true_or]
   rfl
  |false=>
  cases b3:n==[48]
  rotate_left 1
  refine Zas ?_
  iterate 3 refine Zad ?_
  refine Zae b1 ?_
  refine Zae b1 ?_
  refine ZaW b1 ?_
  refine Zad ?_
  refine Zae rfl ?_
  refine Zae rfl ?_
  refine Zae rfl ?_
  refine Zae b3 ?_
  refine Zae b3 ?_
  refine Zae b3 ?_
  refine Zae b3 ?_
  refine Zae b3 ?_
  refine ZdA rfl rfl rfl rfl rfl rfl b3 rfl rfl rfl ?_
  refine ZaW rfl ?_
  refine Zad ?_
  refine Zaq ?_
  refine And.intro (fun h=> ?_) (fun h=> ?_)
  ·have h':m=true:=ha2.symm.trans h
   subst h'
   simp only[Zg9,b1]
   rfl
  have h':(true&&m)=false:=ha2.symm.trans h
  rotate_left 1
  refine Zas ?_
  iterate 3 refine Zad ?_
  refine Zae b1 ?_
  refine Zae b1 ?_
  refine ZaW b1 ?_
  refine Zad ?_
  refine Zae rfl ?_
  refine Zae rfl ?_
  refine Zae rfl ?_
  refine ZaL b3 ?_
  refine ZaL b3 ?_
  refine ZaL b3 ?_
  refine ZaL b3 ?_
  refine ZaL b3 ?_
  refine Zeu rfl rfl rfl rfl rfl rfl b3 rfl rfl rfl ?_
  refine ZaW rfl ?_
  refine Zad ?_
  refine Zaq ?_
  refine brF rfl ?_
  have h':(false&&m)=false:=rfl
  all_goals
   cases b0:decide (E1=0)with
   |false=>
    have hn:(!decide (E1=0))=true:=by rw[b0];rfl
    refine Zas ?_
    iterate 3 refine Zad ?_
    refine ZaL hn ?_
    refine ZaL hn ?_
    refine ZaY hn ?_
    refine Zad ?_
    refine Zaq ?_
    refine brT hn ?_
    simp only[Zg9,b1,b0,h']
    rfl
   |true=>
    have hn:(!decide (E1=0))=false:=by rw[b0];rfl
    refine Zas ?_
    iterate 3 refine Zad ?_
    refine Zae hn ?_
    refine Zae hn ?_
    refine ZaW hn ?_
    refine Zad ?_
    refine Zaq ?_
    refine brF rfl ?_
    refine brF rfl ?_
    simp only[Zg9,b1,b0,h']
    rfl
 |true=>
  simp only[Bool.true_and]at hBad hE2
  obtain⟨E2,hE2'⟩: ∃x,Zay d=x:=⟨_,rfl⟩
  obtain⟨B,hB⟩: ∃x,Zw5 a=x:=⟨_,rfl⟩
  rw[hB]at hBad
  rw[hB,hE2,hE1,hE2']at hP
  rw[hE2']at hNd
  rw[hP,hE1]
  refine brT rfl ?_
  refine hNd.mono ?_
  rintro _ rfl
  cases b1:decide (E1=5)with
  |true=>
   refine Zas ?_
   iterate 3 refine Zad ?_
   refine ZaL b1 ?_
   refine ZaL b1 ?_
   refine ZaY b1 ?_
   refine Zad ?_
   refine ZaL rfl ?_
   refine ZaL rfl ?_
   refine ZaL rfl ?_
   refine ZgC ?_
   refine ZgC ?_
   refine ZgC ?_
   refine ZgC ?_
   refine ZgC ?_
   refine ZaL rfl ?_
   refine ZaY rfl ?_
   refine Zad ?_
   refine Zaq ?_
   refine brT rfl ?_
   simp only[Zg9,b1,Bool.true_or]
   rfl
  |false=>
  cases b2:decide (E2=5)with
  |true=>
   refine Zas ?_
   iterate 3 refine Zad ?_
   refine Zae b1 ?_
   refine Zae b1 ?_
   refine ZaW b1 ?_
   refine Zad ?_
   refine ZaL b2 ?_
   refine ZaL b2 ?_
   refine ZaL b2 ?_
   refine ZgC ?_
   refine ZgC ?_
   refine ZgC ?_
   refine ZgC ?_
   refine ZgC ?_
   refine ZaL b2 ?_
   refine ZaY b2 ?_
   refine Zad ?_
   refine Zaq ?_
   refine brT b2 ?_
   simp only[Zg9,b1,b2]
   rfl
  |false=>
  cases b3:n==[48]
  rotate_left 1
  refine Zas ?_
  iterate 3 refine Zad ?_
  refine Zae b1 ?_
  refine Zae b1 ?_
  refine ZaW b1 ?_
  refine Zad ?_
  refine Zae b2 ?_
  refine Zae b2 ?_
  refine Zae b2 ?_
  refine Zae b3 ?_
  refine Zae b3 ?_
  refine Zae b3 ?_
  refine Zae b3 ?_
  refine Zae b3 ?_
  refine ZdA rfl rfl rfl b2 rfl rfl b3 rfl rfl rfl ?_
  refine ZaW b2 ?_
  refine Zad ?_
  refine Zaq ?_
  refine And.intro (fun h=> ?_) (fun h=> ?_)
  ·have h':m=true:=ha2.symm.trans h
   subst h'
   simp only[Zg9,b1,b2]
   rfl
  have h':(true&&m)=false:=ha2.symm.trans h
  rotate_left 1
  refine Zas ?_
  iterate 3 refine Zad ?_
  refine Zae b1 ?_
  refine Zae b1 ?_
  refine ZaW b1 ?_
  refine Zad ?_
  refine Zae b2 ?_
  refine Zae b2 ?_
  refine Zae b2 ?_
  refine ZaL b3 ?_
  refine ZaL b3 ?_
  refine ZaL b3 ?_
  refine ZaL b3 ?_
  refine ZaL b3 ?_
  refine Zeu rfl rfl rfl b2 rfl rfl b3 rfl rfl rfl ?_
  refine ZaW b2 ?_
  refine Zad ?_
  refine Zaq ?_
  refine brF b3 ?_
  have h':(false&&m)=false:=rfl
  all_goals
   cases b0:decide (E1=0)with
   |false=>
    have hn:(!decide (E1=0))=true:=by rw[b0];rfl
    refine Zas ?_
    iterate 3 refine Zad ?_
    refine ZaL hn ?_
    refine ZaL hn ?_
    refine ZaY hn ?_
    refine Zad ?_
    refine Zaq ?_
    refine brT hn ?_
    simp only[Zg9,b1,b2,b0,h']
    rfl
   |true=>
   have hn:(!decide (E1=0))=false:=by rw[b0];rfl
   cases c0:decide (E2=0)with
   |false=>
    have hn2:(!decide (E2=0))=true:=by rw[c0];rfl
    refine Zas ?_
    iterate 3 refine Zad ?_
    refine Zae hn ?_
    refine Zae hn ?_
    refine ZaW hn ?_
    refine Zad ?_
    refine Zaq ?_
    refine brT hn2 ?_
    simp only[Zg9,b1,b2,b0,c0,h']
    rfl
   |true=>
    have hn2:(!decide (E2=0))=false:=by rw[c0];rfl
    refine Zas ?_
    iterate 3 refine Zad ?_
    refine Zae hn ?_
    refine Zae hn ?_
    refine ZaW hn ?_
    refine Zad ?_
    refine Zaq ?_
    refine brF hn2 ?_
    refine brT rfl ?_
    have z1:Zay n=0:=hE1.trans (of_decide_eq_true b0)
    have z2:Zay d=0:=hE2'.trans (of_decide_eq_true c0)
    have hGd:=ZzS hGc z1 z2
    obtain⟨cd,_⟩:=Za6 z2
    have q1:=ZB3 cd
    have q2:=ZzP cd
    have q3:=ZzP (Za9 (Nat.gcd (dec n) (dec d)))
    rw[Zao]at q3
    obtain⟨g,hg⟩: ∃x,decDigits (Nat.gcd (dec n) (dec d))=x:=⟨_,rfl⟩
    rw[hg]at q3 hGd
    rw[←q1,←q2,←q3]at hBad
    refine hGd.mono ?_
    rintro _ rfl
    cases d1:d==[48]with
    |true=>
     refine Zas ?_
     iterate 3 refine Zad ?_
     refine ZaL d1 ?_
     refine ZaL d1 ?_
     refine ZaY d1 ?_
     refine Zad ?_
     refine ZaL rfl ?_
     refine ZaL rfl ?_
     refine ZaY rfl ?_
     refine Zaq ?_
     refine brT rfl ?_
     rw[d1,Bool.true_or]at hBad
     simp only[Zg9,b1,b2,b0,c0,h',hBad]
     rfl
    |false=>
    cases d2:d==[49]with
    |true=>
     refine Zas ?_
     iterate 3 refine Zad ?_
     refine Zae d1 ?_
     refine Zae d1 ?_
     refine ZaW d1 ?_
     refine Zad ?_
     refine ZaL d2 ?_
     refine ZaL d2 ?_
     refine ZaY d2 ?_
     refine Zaq ?_
     refine brT d2 ?_
     rw[d1,d2,Bool.false_or,Bool.true_or]at hBad
     simp only[Zg9,b1,b2,b0,c0,h',hBad]
     rfl
    |false=>
     refine Zas ?_
     iterate 3 refine Zad ?_
     refine Zae d1 ?_
     refine Zae d1 ?_
     refine ZaW d1 ?_
     refine Zad ?_
     refine Zae d2 ?_
     refine Zae d2 ?_
     refine ZaW d2 ?_
     refine Zaq ?_
     rw[d1,d2,Bool.false_or,Bool.false_or]at hBad
     refine And.intro (fun h=> ?_) (fun h=> ?_)
     ·have h2:(!(g==[49]))=true:=h
      simp only[Zg9,b1,b2,b0,c0,h',hBad,h2]
      rfl
     ·have h2:(!(g==[49]))=false:=h
      simp only[Zg9,b1,b2,b0,c0,h',hBad,h2]
      rfl
end Go.Proofs.YtdnodlkdndfplaaGreatDoor
/-
 The package rat: CheckAll, Add, Sub, Mul, Div, Neg, Compare, Sign, Of.
-/
namespace Go.Proofs.YtdnodlkdndfplaaGreatDoor
open Go.Am Go.Tx Dv Go.Lib
set_option maxRecDepth 100000
set_option maxHeartbeats 4000000 in
theorem ZqU (l:List (List UInt8)) (hl:l.length≤1000000000) (hs: ∀a∈l,a.length≤9223372036854775806):PureOK Tryz.prog Zan 101 [.v (.l .s) l] (fun V=>V= .v (.i .i64) (ZfF l)):=by
 refine Zac Zaa Tryz.func101 ?_
 refine Zat Zaa rfl (fun(i:Nat)=> [(0, .v (.l .s) l),(6, .v (.l .s) l),(7, .v (.i .i64) (l.length:Int)),(8, .v (.i .i64) (i:Int))]) (fun _=> [])
  (fun i=>i≤l.length∧ZfF (l.drop i)=ZfF l) (fun i=>l.length-i) ?_ 0 ?_ ?_
 ·rintro i ⟨hi,he⟩
  refine And.intro (fun h=> ?_) (fun h=> ?_)
  ·have hlt:i<l.length:=by have h':(i:Int)<(l.length:Int):=of_decide_eq_true h;omega
   obtain⟨x,hx⟩: ∃x,l[i]=x:=⟨_,rfl⟩
   have gx:l[(i:Int).toNat]? =some x:=by rw[Int.toNat_natCast,List.getElem?_eq_getElem hlt,hx]
   have hxl:=hs x (hx▸List.getElem_mem hlt)
   rw[List.drop_eq_getElem_cons hlt,hx,ZfF]at he
   refine⟨x,Int.natCast_nonneg i,gx, ?_⟩
   refine(Zwc x hxl).mono ?_
   rintro _ rfl
   refine And.intro (fun h2=> ?_) (fun h2=> ?_)
   ·have h2':(!decide (ZbK x=0))=true:=h2
    have hd:decide (ZbK x=0)=false:=by cases hd:decide (ZbK x=0)<;>simp[hd]at h2'⊢
    rw[hd]at he
    exact congrArg (SV.v (.i .i64)) he
   ·have h2':(!decide (ZbK x=0))=false:=h2
    have hd:decide (ZbK x=0)=true:=by cases hd:decide (ZbK x=0)<;>simp[hd]at h2'⊢
    rw[hd]at he
    have wi:IntKind.i64.wrap ((i:Int)+1)=((i+1:Nat):Int):=Zah (by omega) (by omega)
    refine⟨i+1,⟨hlt,he⟩,by show l.length-(i+1)<l.length-i;omega, ?_⟩
    refine Zal rfl rfl ?_ ?_
    ·exact⟨rfl,rfl,rfl,wi.symm,trivial⟩
    ·exact trivial
  ·have hi2:i=l.length:=by have h': ¬ (i:Int)<(l.length:Int):=of_decide_eq_false h;omega
   rw[List.drop_of_length_le (by omega)]at he
   exact congrArg (SV.v (.i .i64)) he
 ·exact⟨Nat.zero_le _,rfl⟩
 ·refine Zal rfl rfl ?_ ?_
  ·exact⟨rfl,rfl,rfl,rfl,trivial⟩
  ·exact trivial
set_option maxHeartbeats 4000000 in
theorem ZxJ (q:Rat):PureOK Tryz.prog Zan 74 [QR q] (fun V=> ∃X,V= .tup [.v .s X, .v .b (ZjJ q)]∧(ZjJ q=true→X=ZaX q)):=by
 refine Zac Zaa Tryz.func74 ?_
 have hN:=Zqe q.num
 have hD:=Zqe (q.den:Int)
 obtain⟨n1,n2⟩:=ZqN q.num
 obtain⟨d1,d2⟩:=ZqN (q.den:Int)
 have ln:=Zl1 (decide (q.num<0)) (wOf q.num.natAbs)
 have ld:=Zl1 (decide ((q.den:Int)<0)) (wOf (q.den:Int).natAbs)
 have hfit:ZjJ q=(ZcB (wOf q.num.natAbs)&&ZcB (wOf (q.den:Int).natAbs)):=by
  rw[n1,d1,Int.natAbs_natCast]
  rfl
 rw[←n1]at n2
 rw[←d1,decide_eq_false (by omega: ¬ (q.den:Int)<0)]at d2
 rw[decide_eq_false (by omega: ¬ (q.den:Int)<0)]at ld hD
 obtain⟨t1,e1⟩: ∃x,Zda (decide (q.num<0)) (wOf q.num.natAbs)=x:=⟨_,rfl⟩
 obtain⟨f1,g1⟩: ∃x,ZcB (wOf q.num.natAbs)=x:=⟨_,rfl⟩
 obtain⟨t2,e2⟩: ∃x,Zda false (wOf (q.den:Int).natAbs)=x:=⟨_,rfl⟩
 obtain⟨f2,g2⟩: ∃x,ZcB (wOf (q.den:Int).natAbs)=x:=⟨_,rfl⟩
 have hD:PureOK Tryz.prog Zan 126 [IS (q.den:Int)] (fun V=>V= .tup [.v .s (Zda false (wOf (q.den:Int).natAbs)), .v .b (ZcB (wOf (q.den:Int).natAbs))]):=by
  have:=Zqe (q.den:Int)
  refine this.mono ?_
  rintro _ rfl
  rw[decide_eq_false (by omega: ¬ (q.den:Int)<0)]
 rw[e1,g1]at hN n2
 rw[e2,g2]at hD d2
 rw[g1,g2]at hfit
 rw[e1]at ln
 rw[e2]at ld
 rw[Int.natAbs_natCast]at d2
 have hr:ZaX q=mns (decide (q.num<0)) (decDigits q.num.natAbs++ZbB q.den):=rfl
 obtain⟨m,hm⟩: ∃m,decide (q.num<0)=m:=⟨_,rfl⟩
 have n3:f1=true→t1=mns m (decDigits q.num.natAbs):=fun h=>by rw[n2 h,hm]
 rw[hm]at hr
 rw[hfit]
 refine And.intro rfl ?_
 refine hN.mono ?_
 rintro _ rfl
 cases f1 with
 |false=>
  refine And.intro (fun _=> ?_) (fun h=>nomatch h)
  exact⟨[],rfl,fun h=>nomatch h⟩
 |true=>
  have n3:=n3 rfl
  refine And.intro (fun h=>nomatch h) (fun _=> ?_)
  refine And.intro rfl ?_
  refine hD.mono ?_
  rintro _ rfl
  refine And.intro (fun h=> ?_) (fun h=> ?_)
  ·have h':t2=[49]:=eq_of_beq h
   refine⟨t1,rfl,fun hf=> ?_⟩
   have hf:f2=true:=hf
   have h3:=d2 hf
   have h4:decDigits q.den=[49]:=h3.symm.trans h'
   have h5:q.den=1:=(Zxg (Za9 q.den)).2 h4|>fun h=>by rw[Zao]at h;exact h
   rw[hr,n3,ZbB,decide_eq_true h5,List.append_nil]
  ·have h': ¬t2=[49]:=fun e=>by rw[e]at h;cases h
   refine And.intro (by show t1.length+1≤9223372036854775807;omega) ?_
   refine And.intro (by show(t1++ [47]).length+t2.length≤9223372036854775807;rw[List.length_append];simp only[List.length_singleton];omega) ?_
   refine⟨t1++ [47]++t2,rfl,fun hf=> ?_⟩
   have hf:f2=true:=hf
   have h3:=d2 hf
   have h5: ¬q.den=1:=fun e=>h' (by rw[h3,e];exact decDigits_one (by decide))
   rw[hr,n3,ZbB,decide_eq_false h5,h3]
   cases m<;>simp[mns]
theorem Zpf (m:Bool) (n:Nat) (hl:(decDigits n).length≤300000000):PureOK Tryz.prog Zan 109 [.v .s (mns m (decDigits n))] (fun V=>V=IS (sg m (n:Int))):=by
 have h:=Ztq m (decDigits n) (ZaO n) hl
 rw[Zao]at h
 have e:Ztm m (decDigits n)=mns m (decDigits n):=by cases m<;>rfl
 rw[e]at h
 exact h
set_option maxHeartbeats 4000000 in
theorem Zzc (q:Rat) (h:ZjJ q=true):PureOK Tryz.prog Zan 49 [.v .s (ZaX q)] (fun V=>V=QR q):=by
 obtain⟨h1,h2⟩:=Ze0.1 h
 have hl:=Zx5 h
 have hC:=ZzZ (ZaX q) 47 (by omega)
 have hc:Zdf (ZaX q) 47=match decide (q.den=1)with
  |true=>(mns (decide (q.num<0)) (decDigits q.num.natAbs),[],false)
  |false=>(mns (decide (q.num<0)) (decDigits q.num.natAbs),decDigits q.den,true):=Zyz _ _ _
 have hN:=Zpf (decide (q.num<0)) q.num.natAbs (by omega)
 rw[Zhr]at hN
 have hD:=Zpf false q.den (by omega)
 refine Zac Zaa Tryz.func49 ?_
 cases hd:decide (q.den=1)with
 |true=>
  rw[hd]at hc
  simp only at hc
  rw[hc]at hC
  have h1:q.den=1:=of_decide_eq_true hd
  refine hC.mono ?_
  rintro _ rfl
  refine And.intro (fun _=> ?_) (fun h=>nomatch h)
  refine hN.mono ?_
  rintro _ rfl
  refine(ZA8 1 (by decide) (by decide)).mono ?_
  rintro _ rfl
  refine And.intro rfl ?_
  refine And.intro rfl ?_
  show QS q.num ((1:Nat):Int)=QS q.num (q.den:Int)
  rw[h1]
 |false=>
  rw[hd]at hc
  simp only at hc
  rw[hc]at hC
  refine hC.mono ?_
  rintro _ rfl
  refine And.intro (fun h=>nomatch h) (fun _=> ?_)
  refine hN.mono ?_
  rintro _ rfl
  refine hD.mono ?_
  rintro _ rfl
  refine And.intro rfl ?_
  refine And.intro rfl ?_
  rfl
end Go.Proofs.YtdnodlkdndfplaaGreatDoor
/-
 The reference's decimal arithmetic in plain Lean: digits, the least one first.
-/
namespace Dv
open Go Go.Lib
def dv:List Int→Int
 | []=>0
 |d::l=>d+10*dv l
theorem ZjL: ∀ (l:List Int) (d:Int),dv (l++ [d])=dv l+10^l.length*d
 | [],d=>by simp[dv]
 |x::l,d=>by
  simp only[List.cons_append,dv,ZjL l d,List.length_cons,Int.pow_succ]
  grind
def D9 (l:List Int):Prop:= ∀d∈l,0≤d∧d≤9
theorem ZlX: ∀ {l:List Int},(∀d∈l,0≤d)→0≤dv l
 | [],_=>Int.le_refl _
 |x::l,h=>by
  have h1:=h x List.mem_cons_self
  have h2:=ZlX (l:=l) fun y hy=>h y (List.mem_cons_of_mem _ hy)
  simp only[dv];omega
theorem ZAN: ∀ {l:List Int},D9 l→dv l<10^l.length
 | [],_=>by simp[dv]
 |x::l,h=>by
  have h1:=h x List.mem_cons_self
  have h2:=ZAN (l:=l) fun y hy=>h y (List.mem_cons_of_mem _ hy)
  simp only[dv,List.length_cons,Int.pow_succ];omega
theorem Zyx {l:List Int} {i:Nat} (h:i<l.length):dv (l.take (i+1))=dv (l.take i)+10^i*l[i]:=by
 rw[List.take_succ_eq_append_getElem h,ZjL,List.length_take,Nat.min_eq_left (Nat.le_of_lt h)]
theorem Zqv: ∀ {l:List Int} {i:Nat} {x:Int} (h:i<l.length),dv (l.set i x)=dv l+10^i*(x-l[i])
 | [],i,x,h=>by simp at h
 |y::l,0,x,_=>by simp only[List.set_cons_zero,dv,List.getElem_cons_zero,Int.pow_zero];omega
 |y::l,i+1,x,h=>by
  have ih:=Zqv (l:=l) (i:=i) (x:=x) (by simpa using h)
  simp only[List.set_cons_succ,dv,List.getElem_cons_succ,ih,Int.pow_succ]
  grind
def ZhX (l:List Int):List UInt8:=l.reverse.map fun d=>UInt8.ofNat (48+d).toNat
theorem Zm6: ∀ {l:List Int},D9 l→Dg (ZhX l)∧((dec (ZhX l):Nat):Int)=dv l∧(ZhX l).length=l.length
 | [],_=>⟨fun c hc=>by simp[ZhX]at hc,rfl,rfl⟩
 |d::l,h=>by
  have h1:=h d List.mem_cons_self
  obtain⟨h2,h3,h4⟩:=Zm6 (l:=l) fun y hy=>h y (List.mem_cons_of_mem _ hy)
  have e:ZhX (d::l)=ZhX l++ [UInt8.ofNat (48+d).toNat]:=by simp[ZhX]
  have e2:(48+d).toNat=48+d.toNat:=by omega
  have e3:(UInt8.ofNat (48+d).toNat).toNat=48+d.toNat:=by rw[e2];exact Zdc (by omega)
  rw[e]
  refine⟨h2.app ?_, ?_,by simp[h4]⟩
  ·intro c hc
   rw[List.mem_singleton.1 hc,e3];omega
  ·rw[Ze9,e3,Int.natCast_add,Int.natCast_mul,h3]
   simp only[dv]
   omega
theorem ZsZ {s:List UInt8} (h:Dg s) {k:Nat} (hk:k<s.length):(s[s.length-1-k]'(by omega)).toNat-48=dec s/10^k % 10:=by
 have e:s=s.take (s.length-1-k)++(s[s.length-1-k]'(by omega)::s.drop (s.length-1-k+1)):=by
  rw[←List.drop_eq_getElem_cons,List.take_append_drop]
 have hd:Dg (s.drop (s.length-1-k+1)):=fun c hc=>h c (List.mem_of_mem_drop hc)
 have hl:(s.drop (s.length-1-k+1)).length=k:=by rw[List.length_drop];omega
 have hlt:=ZbJ hd
 rw[hl]at hlt
 have hc:=h _ (List.getElem_mem (show s.length-1-k<s.length by omega))
 have hv:dec s=(dec (s.take (s.length-1-k))*10+((s[s.length-1-k]'(by omega)).toNat-48))*10^k+dec (s.drop (s.length-1-k+1)):=by
  conv=>lhs;rw[e]
  rw[Zlj,Zcq,List.length_cons,hl,Nat.pow_succ]
  grind
 rw[hv,Nat.add_comm,Nat.add_mul_div_right _ _ (Nat.pow_pos (by decide)),Nat.div_eq_of_lt hlt,Nat.zero_add]
 omega
theorem Zbm {s:List UInt8} (h:Dg s) {k:Nat} (hk:s.length≤k):dec s/10^k % 10=0:=by
 have h1:=ZbJ h
 have h2:=Nat.pow_le_pow_right (show 0<10 by decide) hk
 rw[Nat.div_eq_of_lt (by omega)]
theorem Zcp (n k:Nat):n % 10^(k+1)=n % 10^k+10^k*(n/10^k % 10):=by
 rw[Nat.pow_succ,Nat.mod_mul]
end Dv

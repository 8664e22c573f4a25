/-
 The reference: Canon, RatAdd, RatSub, RatNeg, RatMul, RatDiv, RatSign, RatCmp.
-/
import Derived.Test.YtdnodlkdndfplaaGreatDoorR4
set_option linter.constructorNameAsVariable false
set_option linter.unusedSimpArgs false
set_option linter.unusedVariables false
namespace Go.Proofs.YtdnodlkdndfplaaGreatDoor
open Go.Am Go.Tx Dv Go.Lib
set_option maxRecDepth 100000
theorem ZqA {n d:Nat} (m:Bool) (hn:n≠0) (hd:0<d):Zbi (Rat.divInt (sg m (n:Int)) (d:Int))=mns m (decDigits (n/Nat.gcd n d)++Zbk (d/Nat.gcd n d)):=by
 obtain⟨e1,e2⟩:=ZdS (n:=sg m (n:Int)) (d:=(d:Int)) (by omega)
 have hg:(Int.gcd (sg m (n:Int)) (d:Int))=Nat.gcd n d:=by
  unfold Int.gcd
  rw[Zkl,Int.natAbs_natCast,Int.natAbs_natCast]
 rw[hg]at e1 e2
 have hg0:0<Nat.gcd n d:=Nat.gcd_pos_of_pos_right _ hd
 obtain⟨k,hk⟩:=Nat.gcd_dvd_left n d
 have hk1:n/Nat.gcd n d=k:=Nat.div_eq_of_eq_mul_right hg0 hk
 have hk0:k≠0:=by rintro rfl;exact hn (by rw[hk,Nat.mul_zero])
 have e3:sg m (n:Int)/(Nat.gcd n d:Int)=sg m (k:Int):=by
  have hc:(n:Int)=(Nat.gcd n d:Int)*(k:Int):=by rw[←Int.natCast_mul,←hk]
  rw[hc]
  cases m with
  |true=>
   simp only[sg]
   rw[←Int.mul_neg,Int.mul_ediv_cancel_left _ (by omega)]
  |false=>
   simp only[sg]
   rw[Int.mul_ediv_cancel_left _ (by omega)]
 rw[e3]at e1
 have e4:(Rat.divInt (sg m (n:Int)) (d:Int)).den=d/Nat.gcd n d:=by
  rw[←Int.natCast_ediv]at e2
  omega
 rw[Zbi,e1,e4,hk1,Zkl,Int.natAbs_natCast]
 have e5:decide (sg m (k:Int)<0)=m:=by
  cases m with
  |true=>exact decide_eq_true (by simp only[sg];omega)
  |false=>exact decide_eq_false (by simp only[sg];omega)
 rw[e5]
set_option maxHeartbeats 4000000 in
theorem Zjb (m:Bool) (n d:Nat) (hd:0<d) (hln:dl n≤90000) (hld:dl d≤90000):PureOK Tryz.prog Zat 59 [.v .b m, .v .s (decDigits n), .v .s (decDigits d)] (fun V=>V= .v .s (Zbi (Rat.divInt (sg m (n:Int)) (d:Int)))):=by
 refine Zak Zal Tryz.func59 ?_
 have hz:=Zkr n
 refine And.intro (fun h=> ?_) (fun h=> ?_)
 ·have h':(decDigits n==[48])=true:=h
  rw[hz]at h'
  have h0:n=0:=of_decide_eq_true h'
  subst h0
  have e:sg m ((0:Nat):Int)=0:=by cases m<;>rfl
  rw[e,Rat.zero_divInt,ZrU]
  rfl
 ·have h':(decDigits n==[48])=false:=h
  rw[hz]at h'
  have hn:n≠0:=of_decide_eq_false h'
  have hg0:0<Nat.gcd n d:=Nat.gcd_pos_of_pos_right _ hd
  have hG:=ZnQ (decDigits n) (decDigits d) (ZaV _) (ZaV _) hln hld
  rw[Zav,Zav]at hG
  have hlg:dl (Nat.gcd n d)≤90000:=Nat.le_trans (ZdU (Nat.gcd_le_right _ hd)) hld
  have hlg':(decDigits (Nat.gcd n d)).length≤90000:=hlg
  have hln':(decDigits n).length≤90000:=hln
  have hld':(decDigits d).length≤90000:=hld
  have hN:=ZjR (decDigits n) (decDigits (Nat.gcd n d)) (ZaI _) (ZaV _) (by rw[Zav];exact hg0) (by omega) (by omega)
  have hD:=ZjR (decDigits d) (decDigits (Nat.gcd n d)) (ZaI _) (ZaV _) (by rw[Zav];exact hg0) (by omega) (by omega)
  rw[Zav,Zav]at hN hD
  rw[ZqA m hn hd]
  have hl1:dl (n/Nat.gcd n d)≤90000:=Nat.le_trans (ZdU (Nat.div_le_self _ _)) hln
  have hl2:dl (d/Nat.gcd n d)≤90000:=Nat.le_trans (ZdU (Nat.div_le_self _ _)) hld
  have hc:=ZvQ (ZaV (d/Nat.gcd n d))
  rw[Zav]at hc
  have hf:Zbk (d/Nat.gcd n d)=match decide (d/Nat.gcd n d=1)with|true=> []|false=>47::decDigits (d/Nat.gcd n d):=rfl
  rw[←hc]at hf
  unfold dl at hl1 hl2
  refine hG.mono ?_
  rintro _ rfl
  refine hN.mono ?_
  rintro _ rfl
  refine hD.mono ?_
  rintro _ rfl
  obtain⟨N,eN⟩: ∃x,decDigits (n/Nat.gcd n d)=x:=⟨_,rfl⟩
  obtain⟨D,eD⟩: ∃x,decDigits (d/Nat.gcd n d)=x:=⟨_,rfl⟩
  rw[eN]at hl1⊢
  rw[eD]at hl2 hf⊢
  obtain⟨F,eF⟩: ∃x,Zbk (d/Nat.gcd n d)=x:=⟨_,rfl⟩
  rw[eF]at hf⊢
  cases m with
  |true=>
   refine And.intro (fun _=> ?_) (fun h=>nomatch h)
   refine And.intro (by show 1+N.length≤9223372036854775807;omega) ?_
   refine And.intro (fun h1=> ?_) (fun h1=> ?_)
   ·have h1':(D==[49])=true:=h1
    rw[h1']at hf
    simp only at hf
    rw[hf,List.append_nil]
    rfl
   ·have h1':(D==[49])=false:=h1
    rw[h1']at hf
    simp only at hf
    refine And.intro (by show(45::N).length+1≤9223372036854775807;simp only[List.length_cons];omega) ?_
    refine And.intro (by show((45::N)++ [47]).length+D.length≤9223372036854775807;simp only[List.length_append,List.length_cons,List.length_nil];omega) ?_
    rw[hf]
    show SV.v .s (((45::N)++ [47])++D)=SV.v .s (45::(N++47::D))
    simp
  |false=>
   refine And.intro (fun h=>nomatch h) (fun _=> ?_)
   refine And.intro (fun h1=> ?_) (fun h1=> ?_)
   ·have h1':(D==[49])=true:=h1
    rw[h1']at hf
    simp only at hf
    rw[hf,List.append_nil]
    rfl
   ·have h1':(D==[49])=false:=h1
    rw[h1']at hf
    simp only at hf
    refine And.intro (by show N.length+1≤9223372036854775807;omega) ?_
    refine And.intro (by show(N++ [47]).length+D.length≤9223372036854775807;simp only[List.length_append,List.length_cons,List.length_nil];omega) ?_
    rw[hf]
    show SV.v .s ((N++ [47])++D)=SV.v .s (N++47::D)
    simp
theorem Zd3 (m n:Nat) (hm:dl m≤300000) (hn:dl n≤300000):PureOK Tryz.prog Zat 58 [.v .s (decDigits m), .v .s (decDigits n)] (fun V=>V= .v .s (decDigits (m*n))):=by
 have h:=ZsY (decDigits m) (decDigits n) (ZaI _) (ZaI _) hm hn
 rw[Zav,Zav]at h
 exact h
theorem Zqy (m n:Nat) (hm:dl m≤900000) (hn:dl n≤900000):PureOK Tryz.prog Zat 60 [.v .s (decDigits m), .v .s (decDigits n)] (fun V=>V= .v .s (decDigits (m+n))):=by
 have h:=Zr7 (decDigits m) (decDigits n) (ZaI _) (ZaI _) hm hn
 rw[Zav,Zav]at h
 exact h
theorem ZkF (m n:Nat) (hm:dl m≤900000) (hn:dl n≤900000) (h:n≤m):PureOK Tryz.prog Zat 62 [.v .s (decDigits m), .v .s (decDigits n)] (fun V=>V= .v .s (decDigits (m-n))):=by
 have h:=Zny (decDigits m) (decDigits n) (ZaI _) (ZaI _) hm hn (by rw[Zav,Zav];exact h)
 rw[Zav,Zav]at h
 exact h
theorem ZrD (m n:Nat) (hm:dl m≤900000) (hn:dl n≤900000):PureOK Tryz.prog Zat 61 [.v .s (decDigits m), .v .s (decDigits n)] (fun V=>V= .v (.i .i64) ((m:Int)-(n:Int)).sign):=by
 have hm:(decDigits m).length≤900000:=hm
 have hn:(decDigits n).length≤900000:=hn
 have h:=Zm8 (decDigits m) (decDigits n) (ZaV _) (ZaV _) (by omega) (by omega)
 rw[Zav,Zav]at h
 exact h
set_option maxHeartbeats 4000000 in
theorem ZsJ (p q:Rat) {k:Nat} (hk:k≤40000) (hp:dz p k) (hq:dz q k):PureOK Tryz.prog Zat 18 [.v .s (Zbi p), .v .s (Zbi q)] (fun V=>V= .v .s (Zbi (p+q))):=by
 have hP:=Zj9 p (by omega) hp
 have hQ:=Zj9 q (by omega) hq
 obtain⟨p1,p2⟩:=hp
 obtain⟨q1,q2⟩:=hq
 have l1:=Zey p.num.natAbs q.den
 have l2:=Zey q.num.natAbs p.den
 have l3:=Zey p.den q.den
 have hz:=Nat.mul_pos p.den_pos q.den_pos
 have e0:=Zjx p q
 have sp:=Zk2 p.num
 have sq:=Zk2 q.num
 obtain⟨m,hm⟩: ∃m,decide (p.num<0)=m:=⟨_,rfl⟩
 obtain⟨w,hw⟩: ∃w,decide (q.num<0)=w:=⟨_,rfl⟩
 rw[hm]at hP sp
 rw[hw]at hQ sq
 have hX:=Zd3 p.num.natAbs q.den (by omega) (by omega)
 have hY:=Zd3 q.num.natAbs p.den (by omega) (by omega)
 have hZ:=Zd3 p.den q.den (by omega) (by omega)
 rw[←Int.natCast_mul,←sp,←sq]at e0
 obtain⟨X,eX⟩: ∃x,p.num.natAbs*q.den=x:=⟨_,rfl⟩
 obtain⟨Y,eY⟩: ∃x,q.num.natAbs*p.den=x:=⟨_,rfl⟩
 obtain⟨Z,eZ⟩: ∃x,p.den*q.den=x:=⟨_,rfl⟩
 have cX:(p.num.natAbs:Int)*(q.den:Int)=(X:Int):=by rw[←Int.natCast_mul,eX]
 have cY:(q.num.natAbs:Int)*(p.den:Int)=(Y:Int):=by rw[←Int.natCast_mul,eY]
 have sm: ∀ (b:Bool) (x y:Int),sg b x*y=sg b (x*y):=fun b x y=>by cases b<;>simp[sg,Int.neg_mul]
 rw[sm,sm,cX,cY]at e0
 rw[eX]at hX l1
 rw[eY]at hY l2
 rw[eZ]at hZ l3 hz e0
 have hS:=ZtX X Y
 refine Zak Zal Tryz.func18 ?_
 refine hP.mono ?_
 rintro _ rfl
 refine hQ.mono ?_
 rintro _ rfl
 refine hX.mono ?_
 rintro _ rfl
 refine hY.mono ?_
 rintro _ rfl
 refine hZ.mono ?_
 rintro _ rfl
 refine And.intro (fun h=> ?_) (fun h=> ?_)
 ·have h':(m==w)=true:=h
  have hmw:m=w:=by simpa using h'
  subst hmw
  refine(Zqy X Y (by omega) (by omega)).mono ?_
  rintro _ rfl
  have e1:sg m (X:Int)+sg m (Y:Int)=sg m ((X+Y:Nat):Int):=by cases m<;>simp only[sg]<;>omega
  rw[e1]at e0
  have hC:=Zjb m (X+Y) Z hz (by omega) (by omega)
  rw[e0]at hC
  refine hC.mono ?_
  rintro _ rfl
  rfl
 ·have h':(m==w)=false:=h
  have hmw:m= !w:=by cases m<;>cases w<;>first|rfl|cases h'
  refine(ZrD X Y (by omega) (by omega)).mono ?_
  rintro _ rfl
  refine And.intro (fun h2=> ?_) (fun h2=> ?_)
  ·have hlt:((X:Int)-(Y:Int)).sign<0:=of_decide_eq_true h2
   have hlt:=Int.sign_neg_iff.1 hlt
   refine(ZkF Y X (by omega) (by omega) (by omega)).mono ?_
   rintro _ rfl
   have e1:sg m (X:Int)+sg w (Y:Int)=sg w ((Y-X:Nat):Int):=by rw[hmw];cases w<;>simp only[sg,Bool.not_true,Bool.not_false]<;>omega
   rw[e1]at e0
   have hC:=Zjb w (Y-X) Z hz (Nat.le_trans (ZdU (Nat.sub_le _ _)) (by omega)) (by omega)
   rw[e0]at hC
   refine hC.mono ?_
   rintro _ rfl
   rfl
  ·have hge: ¬ ((X:Int)-(Y:Int)).sign<0:=of_decide_eq_false h2
   have hge: ¬ (X:Int)-(Y:Int)<0:=fun h=>hge (Int.sign_neg_iff.2 h)
   refine(ZkF X Y (by omega) (by omega) (by omega)).mono ?_
   rintro _ rfl
   have e1:sg m (X:Int)+sg w (Y:Int)=sg m ((X-Y:Nat):Int):=by rw[hmw];cases w<;>simp only[sg,Bool.not_true,Bool.not_false]<;>omega
   rw[e1]at e0
   have hC:=Zjb m (X-Y) Z hz (Nat.le_trans (ZdU (Nat.sub_le _ _)) (by omega)) (by omega)
   rw[e0]at hC
   refine hC.mono ?_
   rintro _ rfl
   rfl
theorem Zwc (m w:Bool) (x y:Int):sg m x*sg w y=sg (!(m==w)) (x*y):=by
 cases m<;>cases w<;>simp[sg,Int.neg_mul,Int.mul_neg]
set_option maxHeartbeats 4000000 in
theorem ZsF (p q:Rat) {k:Nat} (hk:k≤40000) (hp:dz p k) (hq:dz q k):PureOK Tryz.prog Zat 19 [.v .s (Zbi p), .v .s (Zbi q)] (fun V=>V= .v .s (Zbi (p*q))):=by
 have hP:=Zj9 p (by omega) hp
 have hQ:=Zj9 q (by omega) hq
 obtain⟨p1,p2⟩:=hp
 obtain⟨q1,q2⟩:=hq
 have l1:=Zey p.num.natAbs q.num.natAbs
 have l3:=Zey p.den q.den
 have hz:=Nat.mul_pos p.den_pos q.den_pos
 have e0:=ZjT p q
 have sp:=Zk2 p.num
 have sq:=Zk2 q.num
 obtain⟨m,hm⟩: ∃m,decide (p.num<0)=m:=⟨_,rfl⟩
 obtain⟨w,hw⟩: ∃w,decide (q.num<0)=w:=⟨_,rfl⟩
 rw[hm]at hP sp
 rw[hw]at hQ sq
 have hX:=Zd3 p.num.natAbs q.num.natAbs (by omega) (by omega)
 have hZ:=Zd3 p.den q.den (by omega) (by omega)
 rw[←Int.natCast_mul,←sp,←sq,Zwc,←Int.natCast_mul]at e0
 have hC:=Zjb (!(m==w)) (p.num.natAbs*q.num.natAbs) (p.den*q.den) hz (by omega) (by omega)
 rw[e0]at hC
 refine Zak Zal Tryz.func19 ?_
 refine hP.mono ?_
 rintro _ rfl
 refine hQ.mono ?_
 rintro _ rfl
 refine hX.mono ?_
 rintro _ rfl
 refine hZ.mono ?_
 rintro _ rfl
 refine hC.mono ?_
 rintro _ rfl
 rfl
end Go.Proofs.YtdnodlkdndfplaaGreatDoor
/-
 Sizes of rational numbers in words; lists of rational numbers as the program holds them.
-/
namespace Go.Proofs.YtdnodlkdndfplaaGreatDoor
open Go.Am Go.Tx Dv Go.Lib
set_option maxRecDepth 100000
theorem RxDoorQ91pw {a b m n:Nat} (k:Nat) (h:a^m≤b^n) {x:Nat} (hx:x≤m*k) (ha:0<a) {y:Nat} (hy:n*k=y):a^x≤b^y:=by
 subst hy
 refine Nat.le_trans (Nat.pow_le_pow_right ha hx) ?_
 rw[Nat.pow_mul,Nat.pow_mul]
 exact Nat.pow_le_pow_left h k
theorem Znm {q:Rat} (h:Zeu q=true):szQ q 208:=by
 obtain⟨h1,h2⟩:=Zei.1 h
 have hp:(10:Nat)^2000≤4294967296^208:=by decide+kernel
 have hl: ∀n:Nat,(decDigits n).length≤2000→(wOf n).length≤208:=fun n hn=>by
  have hd:=Zbl (ZaI n)
  rw[Zav]at hd
  exact ZbW.2 (Nat.lt_of_lt_of_le hd (RxDoorQ91pw (m:=250) (n:=26) 8 (by decide +kernel) hn (by decide) rfl))
 refine⟨hl _ h1, ?_⟩
 rw[ln,Int.natAbs_natCast]
 exact hl _ h2
abbrev qct:CT:= .p (.p .b (.l (.i .u32))) (.p .b (.l (.i .u32)))
def ZcB (q:Rat):qct.D:=((decide (q.num<0),wOf q.num.natAbs),(decide ((q.den:Int)<0),wOf (q.den:Int).natAbs))
abbrev QL (ps:List Rat):SV:= .v (.l qct) (ps.map ZcB)
theorem Zwe {ps:List Rat} {i:Nat} (h:i<ps.length):(ps.map ZcB)[i]? =some (ZcB ps[i]):=by
 rw[List.getElem?_map,List.getElem?_eq_getElem h]
 rfl
end Go.Proofs.YtdnodlkdndfplaaGreatDoor

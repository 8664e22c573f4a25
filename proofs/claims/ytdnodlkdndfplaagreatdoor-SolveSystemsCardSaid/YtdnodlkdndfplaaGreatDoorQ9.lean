/-
 The reference: Canon, RatAdd, RatSub, RatNeg, RatMul, RatDiv, RatSign, RatCmp.
-/
import Derived.Test.YtdnodlkdndfplaaGreatDoorR4
set_option linter.constructorNameAsVariable false
set_option linter.unusedSimpArgs false
set_option linter.unusedVariables false
namespace Go.Proofs.YtdnodlkdndfplaaGreatDoor
open Go.Am Go.Tx Dv Go.Lib
set_option maxRecDepth 100000
theorem Zuo {n d:Nat} (m:Bool) (hn:n≠0) (hd:0<d):ZaX (Rat.divInt (sg m (n:Int)) (d:Int))=mns m (decDigits (n/Nat.gcd n d)++ZbB (d/Nat.gcd n d)):=by
 obtain⟨e1,e2⟩:=ZdK (n:=sg m (n:Int)) (d:=(d:Int)) (by omega)
 have hg:(Int.gcd (sg m (n:Int)) (d:Int))=Nat.gcd n d:=by
  unfold Int.gcd
  rw[ZmZ,Int.natAbs_natCast,Int.natAbs_natCast]
 rw[hg]at e1 e2
 have hg0:0<Nat.gcd n d:=Nat.gcd_pos_of_pos_right _ hd
 obtain⟨k,hk⟩:=Nat.gcd_dvd_left n d
 have hk1:n/Nat.gcd n d=k:=Nat.div_eq_of_eq_mul_right hg0 hk
 have hk0:k≠0:=by rintro rfl;exact hn (by rw[hk,Nat.mul_zero])
 have e3:sg m (n:Int)/(Nat.gcd n d:Int)=sg m (k:Int):=by
  have hc:(n:Int)=(Nat.gcd n d:Int)*(k:Int):=by rw[←Int.natCast_mul,←hk]
  rw[hc]
  cases m with
  |true=>
   simp only[sg]
   rw[←Int.mul_neg,Int.mul_ediv_cancel_left _ (by omega)]
  |false=>
   simp only[sg]
   rw[Int.mul_ediv_cancel_left _ (by omega)]
 rw[e3]at e1
 have e4:(Rat.divInt (sg m (n:Int)) (d:Int)).den=d/Nat.gcd n d:=by
  rw[←Int.natCast_ediv]at e2
  omega
 rw[ZaX,e1,e4,hk1,ZmZ,Int.natAbs_natCast]
 have e5:decide (sg m (k:Int)<0)=m:=by
  cases m with
  |true=>exact decide_eq_true (by simp only[sg];omega)
  |false=>exact decide_eq_false (by simp only[sg];omega)
 rw[e5]
set_option maxHeartbeats 4000000 in
theorem Zg5 (m:Bool) (n d:Nat) (hd:0<d) (hln:dl n≤90000) (hld:dl d≤90000):PureOK Tryz.prog Zan 59 [.v .b m, .v .s (decDigits n), .v .s (decDigits d)] (fun V=>V= .v .s (ZaX (Rat.divInt (sg m (n:Int)) (d:Int)))):=by
 refine Zac Zaa Tryz.func59 ?_
 have hz:=Zm0 n
 refine And.intro (fun h=> ?_) (fun h=> ?_)
 ·have h':(decDigits n==[48])=true:=h
  rw[hz]at h'
  have h0:n=0:=of_decide_eq_true h'
  subst h0
  have e:sg m ((0:Nat):Int)=0:=by cases m<;>rfl
  rw[e,Rat.zero_divInt,Znw]
  rfl
 ·have h':(decDigits n==[48])=false:=h
  rw[hz]at h'
  have hn:n≠0:=of_decide_eq_false h'
  have hg0:0<Nat.gcd n d:=Nat.gcd_pos_of_pos_right _ hd
  have hG:=Zpo (decDigits n) (decDigits d) (Za9 _) (Za9 _) hln hld
  rw[Zao,Zao]at hG
  have hlg:dl (Nat.gcd n d)≤90000:=Nat.le_trans (Zey (Nat.gcd_le_right _ hd)) hld
  have hlg':(decDigits (Nat.gcd n d)).length≤90000:=hlg
  have hln':(decDigits n).length≤90000:=hln
  have hld':(decDigits d).length≤90000:=hld
  have hN:=ZkY (decDigits n) (decDigits (Nat.gcd n d)) (ZaO _) (Za9 _) (by rw[Zao];exact hg0) (by omega) (by omega)
  have hD:=ZkY (decDigits d) (decDigits (Nat.gcd n d)) (ZaO _) (Za9 _) (by rw[Zao];exact hg0) (by omega) (by omega)
  rw[Zao,Zao]at hN hD
  rw[Zuo m hn hd]
  have hl1:dl (n/Nat.gcd n d)≤90000:=Nat.le_trans (Zey (Nat.div_le_self _ _)) hln
  have hl2:dl (d/Nat.gcd n d)≤90000:=Nat.le_trans (Zey (Nat.div_le_self _ _)) hld
  have hc:=ZzP (Za9 (d/Nat.gcd n d))
  rw[Zao]at hc
  have hf:ZbB (d/Nat.gcd n d)=match decide (d/Nat.gcd n d=1)with|true=> []|false=>47::decDigits (d/Nat.gcd n d):=rfl
  rw[←hc]at hf
  unfold dl at hl1 hl2
  refine hG.mono ?_
  rintro _ rfl
  refine hN.mono ?_
  rintro _ rfl
  refine hD.mono ?_
  rintro _ rfl
  obtain⟨N,eN⟩: ∃x,decDigits (n/Nat.gcd n d)=x:=⟨_,rfl⟩
  obtain⟨D,eD⟩: ∃x,decDigits (d/Nat.gcd n d)=x:=⟨_,rfl⟩
  rw[eN]at hl1⊢
  rw[eD]at hl2 hf⊢
  obtain⟨F,eF⟩: ∃x,ZbB (d/Nat.gcd n d)=x:=⟨_,rfl⟩
  rw[eF]at hf⊢
  cases m with
  |true=>
   refine And.intro (fun _=> ?_) (fun h=>nomatch h)
   refine And.intro (by show 1+N.length≤9223372036854775807;omega) ?_
   refine And.intro (fun h1=> ?_) (fun h1=> ?_)
   ·have h1':(D==[49])=true:=h1
    rw[h1']at hf
    simp only at hf
    rw[hf,List.append_nil]
    rfl
   ·have h1':(D==[49])=false:=h1
    rw[h1']at hf
    simp only at hf
    refine And.intro (by show(45::N).length+1≤9223372036854775807;simp only[List.length_cons];omega) ?_
    refine And.intro (by show((45::N)++ [47]).length+D.length≤9223372036854775807;simp only[List.length_append,List.length_cons,List.length_nil];omega) ?_
    rw[hf]
    show SV.v .s (((45::N)++ [47])++D)=SV.v .s (45::(N++47::D))
    simp
  |false=>
   refine And.intro (fun h=>nomatch h) (fun _=> ?_)
   refine And.intro (fun h1=> ?_) (fun h1=> ?_)
   ·have h1':(D==[49])=true:=h1
    rw[h1']at hf
    simp only at hf
    rw[hf,List.append_nil]
    rfl
   ·have h1':(D==[49])=false:=h1
    rw[h1']at hf
    simp only at hf
    refine And.intro (by show N.length+1≤9223372036854775807;omega) ?_
    refine And.intro (by show(N++ [47]).length+D.length≤9223372036854775807;simp only[List.length_append,List.length_cons,List.length_nil];omega) ?_
    rw[hf]
    show SV.v .s ((N++ [47])++D)=SV.v .s (N++47::D)
    simp
theorem Zc2 (m n:Nat) (hm:dl m≤300000) (hn:dl n≤300000):PureOK Tryz.prog Zan 58 [.v .s (decDigits m), .v .s (decDigits n)] (fun V=>V= .v .s (decDigits (m*n))):=by
 have h:=ZuY (decDigits m) (decDigits n) (ZaO _) (ZaO _) hm hn
 rw[Zao,Zao]at h
 exact h
theorem Ztf (m n:Nat) (hm:dl m≤900000) (hn:dl n≤900000):PureOK Tryz.prog Zan 60 [.v .s (decDigits m), .v .s (decDigits n)] (fun V=>V= .v .s (decDigits (m+n))):=by
 have h:=ZvE (decDigits m) (decDigits n) (ZaO _) (ZaO _) hm hn
 rw[Zao,Zao]at h
 exact h
theorem Zmi (m n:Nat) (hm:dl m≤900000) (hn:dl n≤900000) (h:n≤m):PureOK Tryz.prog Zan 62 [.v .s (decDigits m), .v .s (decDigits n)] (fun V=>V= .v .s (decDigits (m-n))):=by
 have h:=Zpp (decDigits m) (decDigits n) (ZaO _) (ZaO _) hm hn (by rw[Zao,Zao];exact h)
 rw[Zao,Zao]at h
 exact h
theorem Ztw (m n:Nat) (hm:dl m≤900000) (hn:dl n≤900000):PureOK Tryz.prog Zan 61 [.v .s (decDigits m), .v .s (decDigits n)] (fun V=>V= .v (.i .i64) ((m:Int)-(n:Int)).sign):=by
 have hm:(decDigits m).length≤900000:=hm
 have hn:(decDigits n).length≤900000:=hn
 have h:=ZpG (decDigits m) (decDigits n) (Za9 _) (Za9 _) (by omega) (by omega)
 rw[Zao,Zao]at h
 exact h
set_option maxHeartbeats 4000000 in
theorem ZvK (p q:Rat) {k:Nat} (hk:k≤40000) (hp:dz p k) (hq:dz q k):PureOK Tryz.prog Zan 18 [.v .s (ZaX p), .v .s (ZaX q)] (fun V=>V= .v .s (ZaX (p+q))):=by
 have hP:=Zfs p (by omega) hp
 have hQ:=Zfs q (by omega) hq
 obtain⟨p1,p2⟩:=hp
 obtain⟨q1,q2⟩:=hq
 have l1:=Zdn p.num.natAbs q.den
 have l2:=Zdn q.num.natAbs p.den
 have l3:=Zdn p.den q.den
 have hz:=Nat.mul_pos p.den_pos q.den_pos
 have e0:=ZkT p q
 have sp:=Zhr p.num
 have sq:=Zhr q.num
 obtain⟨m,hm⟩: ∃m,decide (p.num<0)=m:=⟨_,rfl⟩
 obtain⟨w,hw⟩: ∃w,decide (q.num<0)=w:=⟨_,rfl⟩
 rw[hm]at hP sp
 rw[hw]at hQ sq
 have hX:=Zc2 p.num.natAbs q.den (by omega) (by omega)
 have hY:=Zc2 q.num.natAbs p.den (by omega) (by omega)
 have hZ:=Zc2 p.den q.den (by omega) (by omega)
 rw[←Int.natCast_mul,←sp,←sq]at e0
 obtain⟨X,eX⟩: ∃x,p.num.natAbs*q.den=x:=⟨_,rfl⟩
 obtain⟨Y,eY⟩: ∃x,q.num.natAbs*p.den=x:=⟨_,rfl⟩
 obtain⟨Z,eZ⟩: ∃x,p.den*q.den=x:=⟨_,rfl⟩
 have cX:(p.num.natAbs:Int)*(q.den:Int)=(X:Int):=by rw[←Int.natCast_mul,eX]
 have cY:(q.num.natAbs:Int)*(p.den:Int)=(Y:Int):=by rw[←Int.natCast_mul,eY]
 have sm: ∀ (b:Bool) (x y:Int),sg b x*y=sg b (x*y):=fun b x y=>by cases b<;>simp[sg,Int.neg_mul]
 rw[sm,sm,cX,cY]at e0
 rw[eX]at hX l1
 rw[eY]at hY l2
 rw[eZ]at hZ l3 hz e0
 have hS:=Zw0 X Y
 refine Zac Zaa Tryz.func18 ?_
 refine hP.mono ?_
 rintro _ rfl
 refine hQ.mono ?_
 rintro _ rfl
 refine hX.mono ?_
 rintro _ rfl
 refine hY.mono ?_
 rintro _ rfl
 refine hZ.mono ?_
 rintro _ rfl
 refine And.intro (fun h=> ?_) (fun h=> ?_)
 ·have h':(m==w)=true:=h
  have hmw:m=w:=by simpa using h'
  subst hmw
  refine(Ztf X Y (by omega) (by omega)).mono ?_
  rintro _ rfl
  have e1:sg m (X:Int)+sg m (Y:Int)=sg m ((X+Y:Nat):Int):=by cases m<;>simp only[sg]<;>omega
  rw[e1]at e0
  have hC:=Zg5 m (X+Y) Z hz (by omega) (by omega)
  rw[e0]at hC
  refine hC.mono ?_
  rintro _ rfl
  rfl
 ·have h':(m==w)=false:=h
  have hmw:m= !w:=by cases m<;>cases w<;>first|rfl|cases h'
  refine(Ztw X Y (by omega) (by omega)).mono ?_
  rintro _ rfl
  refine And.intro (fun h2=> ?_) (fun h2=> ?_)
  ·have hlt:((X:Int)-(Y:Int)).sign<0:=of_decide_eq_true h2
   have hlt:=Int.sign_neg_iff.1 hlt
   refine(Zmi Y X (by omega) (by omega) (by omega)).mono ?_
   rintro _ rfl
   have e1:sg m (X:Int)+sg w (Y:Int)=sg w ((Y-X:Nat):Int):=by rw[hmw];cases w<;>simp only[sg,Bool.not_true,Bool.not_false]<;>omega
   rw[e1]at e0
   have hC:=Zg5 w (Y-X) Z hz (Nat.le_trans (Zey (Nat.sub_le _ _)) (by omega)) (by omega)
   rw[e0]at hC
   refine hC.mono ?_
   rintro _ rfl
   rfl
  ·have hge: ¬ ((X:Int)-(Y:Int)).sign<0:=of_decide_eq_false h2
   have hge: ¬ (X:Int)-(Y:Int)<0:=fun h=>hge (Int.sign_neg_iff.2 h)
   refine(Zmi X Y (by omega) (by omega) (by omega)).mono ?_
   rintro _ rfl
   have e1:sg m (X:Int)+sg w (Y:Int)=sg m ((X-Y:Nat):Int):=by rw[hmw];cases w<;>simp only[sg,Bool.not_true,Bool.not_false]<;>omega
   rw[e1]at e0
   have hC:=Zg5 m (X-Y) Z hz (Nat.le_trans (Zey (Nat.sub_le _ _)) (by omega)) (by omega)
   rw[e0]at hC
   refine hC.mono ?_
   rintro _ rfl
   rfl
theorem Zwj (p:Rat):Rat.divInt (-p.num) (p.den:Int)= -p:=by
 rw[←Rat.neg_divInt,Rat.num_divInt_den]
set_option maxHeartbeats 4000000 in
theorem Zu1 (p:Rat) {k:Nat} (hk:k≤40000) (hp:dz p k):PureOK Tryz.prog Zan 76 [.v .s (ZaX p)] (fun V=>V= .v .s (ZaX (-p))):=by
 have hP:=Zfs p (by omega) hp
 obtain⟨p1,p2⟩:=hp
 have sp:=Zhr p.num
 have e0:=Zwj p
 obtain⟨m,hm⟩: ∃m,decide (p.num<0)=m:=⟨_,rfl⟩
 rw[hm]at hP sp
 have e1: -p.num=sg (!m) (p.num.natAbs:Int):=by
  have: -p.num= -sg m (p.num.natAbs:Int):=by rw[sp]
  rw[this]
  cases m<;>simp[sg]
 rw[e1]at e0
 have hC:=Zg5 (!m) p.num.natAbs p.den p.den_pos (by omega) (by omega)
 rw[e0]at hC
 refine Zac Zaa Tryz.func76 ?_
 refine hP.mono ?_
 rintro _ rfl
 refine hC.mono ?_
 rintro _ rfl
 rfl
theorem ZlL (p q:Rat) {k:Nat} (hk:k≤40000) (hp:dz p k) (hq:dz q k):PureOK Tryz.prog Zan 82 [.v .s (ZaX p), .v .s (ZaX q)] (fun V=>V= .v .s (ZaX (p-q))):=by
 have hA:=ZvK p (-q) hk hp (Zpi hq)
 rw[←Rat.sub_eq_add_neg]at hA
 refine Zac Zaa Tryz.func82 ?_
 refine(Zu1 q hk hq).mono ?_
 rintro _ rfl
 refine hA.mono ?_
 rintro _ rfl
 rfl
theorem ZAS (m w:Bool) (x y:Int):sg m x*sg w y=sg (!(m==w)) (x*y):=by
 cases m<;>cases w<;>simp[sg,Int.neg_mul,Int.mul_neg]
set_option maxHeartbeats 4000000 in
theorem Zlf (p q:Rat) {k:Nat} (hk:k≤40000) (hp:dz p k) (hq:dz q k):PureOK Tryz.prog Zan 19 [.v .s (ZaX p), .v .s (ZaX q)] (fun V=>V= .v .s (ZaX (p*q))):=by
 have hP:=Zfs p (by omega) hp
 have hQ:=Zfs q (by omega) hq
 obtain⟨p1,p2⟩:=hp
 obtain⟨q1,q2⟩:=hq
 have l1:=Zdn p.num.natAbs q.num.natAbs
 have l3:=Zdn p.den q.den
 have hz:=Nat.mul_pos p.den_pos q.den_pos
 have e0:=Zh9 p q
 have sp:=Zhr p.num
 have sq:=Zhr q.num
 obtain⟨m,hm⟩: ∃m,decide (p.num<0)=m:=⟨_,rfl⟩
 obtain⟨w,hw⟩: ∃w,decide (q.num<0)=w:=⟨_,rfl⟩
 rw[hm]at hP sp
 rw[hw]at hQ sq
 have hX:=Zc2 p.num.natAbs q.num.natAbs (by omega) (by omega)
 have hZ:=Zc2 p.den q.den (by omega) (by omega)
 rw[←Int.natCast_mul,←sp,←sq,ZAS,←Int.natCast_mul]at e0
 have hC:=Zg5 (!(m==w)) (p.num.natAbs*q.num.natAbs) (p.den*q.den) hz (by omega) (by omega)
 rw[e0]at hC
 refine Zac Zaa Tryz.func19 ?_
 refine hP.mono ?_
 rintro _ rfl
 refine hQ.mono ?_
 rintro _ rfl
 refine hX.mono ?_
 rintro _ rfl
 refine hZ.mono ?_
 rintro _ rfl
 refine hC.mono ?_
 rintro _ rfl
 rfl
set_option maxHeartbeats 4000000 in
theorem ZpB (p q:Rat) {k:Nat} (hk:k≤40000) (hp:dz p k) (hq:dz q k) (h0:q≠0):PureOK Tryz.prog Zan 81 [.v .s (ZaX p), .v .s (ZaX q)] (fun V=>V= .v .s (ZaX (p/q))):=by
 have hP:=Zfs p (by omega) hp
 have hQ:=Zfs q (by omega) hq
 obtain⟨p1,p2⟩:=hp
 obtain⟨q1,q2⟩:=hq
 have l1:=Zdn p.num.natAbs q.den
 have l3:=Zdn p.den q.num.natAbs
 have hn:q.num≠0:=fun h=>h0 (Rat.num_eq_zero.1 h)
 have hz:=Nat.mul_pos p.den_pos (show 0<q.num.natAbs by omega)
 have e0:=ZkG p q
 have sp:=Zhr p.num
 have sq:=Zhr q.num
 obtain⟨m,hm⟩: ∃m,decide (p.num<0)=m:=⟨_,rfl⟩
 obtain⟨w,hw⟩: ∃w,decide (q.num<0)=w:=⟨_,rfl⟩
 rw[hm]at hP sp
 rw[hw]at hQ sq
 have hX:=Zc2 p.num.natAbs q.den (by omega) (by omega)
 have hZ:=Zc2 p.den q.num.natAbs (by omega) (by omega)
 have sm: ∀ (b:Bool) (x y:Int),sg b x*y=sg b (x*y):=fun b x y=>by cases b<;>simp[sg,Int.neg_mul]
 have sn: ∀ (b:Bool) (x y:Int),x*sg b y=sg b (x*y):=fun b x y=>by cases b<;>simp[sg,Int.mul_neg]
 have e1:Rat.divInt (sg (!(m==w)) ((p.num.natAbs*q.den:Nat):Int)) ((p.den*q.num.natAbs:Nat):Int)=p/q:=by
  rw[←e0]
  conv=>rhs;rw[←sp,←sq,sm,sn,←Int.natCast_mul,←Int.natCast_mul]
  cases m<;>cases w
  ·rfl
  ·exact(Rat.divInt_neg' _ _).symm
  ·rfl
  ·exact(Rat.neg_divInt_neg _ _).symm
 have hC:=Zg5 (!(m==w)) (p.num.natAbs*q.den) (p.den*q.num.natAbs) hz (by omega) (by omega)
 rw[e1]at hC
 refine Zac Zaa Tryz.func81 ?_
 refine hP.mono ?_
 rintro _ rfl
 refine hQ.mono ?_
 rintro _ rfl
 refine hX.mono ?_
 rintro _ rfl
 refine hZ.mono ?_
 rintro _ rfl
 refine hC.mono ?_
 rintro _ rfl
 rfl
end Go.Proofs.YtdnodlkdndfplaaGreatDoor
/-
 Sizes of rational numbers in words; lists of rational numbers as the program holds them.
-/
namespace Go.Proofs.YtdnodlkdndfplaaGreatDoor
open Go.Am Go.Tx Dv Go.Lib
set_option maxRecDepth 100000
theorem ZlA {n d:Int} {k:Nat} (hd:0<d) (h1:ln n≤k) (h2:ln d≤k):szQ (Rat.divInt n d) k:=by
 obtain⟨e1,e2⟩:=ZdK (n:=n) hd
 constructor
 ·rw[e1]
  exact Nat.le_trans (Zi7 (Int.natAbs_ediv_le_natAbs _ _)) h1
 ·rw[e2]
  exact Nat.le_trans (Zi7 (Int.natAbs_ediv_le_natAbs _ _)) h2
theorem ZzD {p q:Rat} {k m:Nat} (hp:szQ p k) (hq:szQ q m):szQ (p*q) (k+m):=by
 rw[←Zh9]
 obtain⟨p1,p2⟩:=hp
 obtain⟨q1,q2⟩:=hq
 have h1:=Zfd p.num q.num
 have h3:=Zfd (p.den:Int) q.den
 exact ZlA (Int.mul_pos (Zdi p) (Zdi q)) (by omega) (by omega)
theorem ZyB {p:Rat} {k m:Nat} (h:k≤m) (hp:szQ p k):szQ p m:=⟨Nat.le_trans hp.1 h,Nat.le_trans hp.2 h⟩
abbrev qct:CT:= .p (.p .b (.l (.i .u32))) (.p .b (.l (.i .u32)))
def Zcy (q:Rat):qct.D:=((decide (q.num<0),wOf q.num.natAbs),(decide ((q.den:Int)<0),wOf (q.den:Int).natAbs))
abbrev QL (ps:List Rat):SV:= .v (.l qct) (ps.map Zcy)
theorem Zz7 {ps:List Rat} {i:Nat} (h:i<ps.length):(ps.map Zcy)[i]? =some (Zcy ps[i]):=by
 rw[List.getElem?_map,List.getElem?_eq_getElem h]
 rfl
end Go.Proofs.YtdnodlkdndfplaaGreatDoor

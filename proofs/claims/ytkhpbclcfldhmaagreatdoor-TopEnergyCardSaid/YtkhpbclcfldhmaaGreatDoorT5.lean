import Derived.Test.YtkhpbclcfldhmaaGreatDoorT4
set_option linter.constructorNameAsVariable false
set_option linter.unusedSimpArgs false
set_option linter.unusedVariables false
namespace Go.Proofs.YtkhpbclcfldhmaaGreatDoor
open Go.Am Go.Tx Dv
set_option maxRecDepth 100000
set_option maxHeartbeats 4000000 in
theorem ZpJ (a b:List Int) (ha:Wd a) (hb:Wd b) (hl:a.length≤1000000) (hl2:b.length≤1000000):PureOK Tryz.prog Zao 66 [Za8 a,Za8 b] (fun V=> ∃r:Int,V= .v (.i .i64) r∧(a.length≠b.length→r=a.length-b.length)∧(a.length=b.length→(r<0↔wv a<wv b)∧(r=0↔wv a=wv b))):=by
 refine Zae Zah Tryz.func66 ?_
 refine And.intro (fun h=> ?_) (fun h=> ?_)
 ·have hne:a.length≠b.length:=fun e=>by
   have h':(!decide ((a.length:Int)=b.length))=true:=h
   rw[e]at h';simp at h'
  exact⟨_,rfl,fun _=>Zar (by omega) (by omega),fun e=>absurd e hne⟩
 ·have hab:a.length=b.length:=by have h':(a.length:Int)=b.length:=by simpa using h
                                 omega
  refine Zaz Zah rfl (fun(k:Nat)=> [(0,Za8 a),(1,Za8 b),(5, .v (.i .i64) ((k:Int)-1))]) (fun _=> [])
   (fun k=>k≤a.length∧a.drop k=b.drop k) (fun k=>k) ?_ a.length ?_ ?_
  ·rintro k ⟨hk,hd⟩
   refine And.intro (fun h=> ?_) (fun h=> ?_)
   ·have hk1:1≤k:=by have:=of_decide_eq_true h;omega
    obtain⟨m,rfl⟩: ∃m,k=m+1:=⟨k-1,by omega⟩
    have hm:m<a.length:=by omega
    have ix:(((m+1:Nat):Int)-1).toNat=m:=by omega
    have ix0:(0:Int)≤((m+1:Nat):Int)-1:=by omega
    have hga:a[(((m+1:Nat):Int)-1).toNat]? =some a[m]:=by rw[ix];exact List.getElem?_eq_getElem hm
    have hgb:b[(((m+1:Nat):Int)-1).toNat]? =some b[m]:=by rw[ix];exact List.getElem?_eq_getElem (by omega)
    refine⟨a[m],ix0,hga, ?_⟩
    refine⟨b[m],ix0,hgb, ?_⟩
    refine And.intro (fun h2=> ?_) (fun h2=> ?_)
    ·refine⟨a[m],ix0,hga, ?_⟩
     refine⟨b[m],ix0,hgb, ?_⟩
     refine And.intro (fun h3=> ?_) (fun h3=> ?_)
     ·have hlt:a[m]<b[m]:=of_decide_eq_true h3
      have hv:=Zsn ha hb hm hab hd hlt
      exact⟨-1,rfl,fun e=>absurd hab e,fun _=>⟨by omega,by omega⟩⟩
     ·have hge: ¬a[m]<b[m]:=of_decide_eq_false h3
      have hne:a[m]≠b[m]:=fun e=>by
       have h':(!decide (a[m]=b[m]))=true:=h2
       rw[e]at h';simp at h'
      have hv:=Zsn hb ha (by omega:m<b.length) hab.symm hd.symm (by omega)
      exact⟨1,rfl,fun e=>absurd hab e,fun _=>⟨by omega,by omega⟩⟩
    ·have he:a[m]=b[m]:=by
      have h':(!decide (a[m]=b[m]))=false:=h2
      simpa using h'
     refine⟨m,⟨by show m≤a.length;omega, ?_⟩,by show m<m+1;omega, ?_⟩
     ·show a.drop m=b.drop m
      rw[List.drop_eq_getElem_cons hm,List.drop_eq_getElem_cons (by omega:m<b.length),he,hd]
     ·refine ZaC rfl rfl ?_ ?_
      ·exact⟨rfl,rfl,((Zar (by omega) (by omega)).trans (by omega):IntKind.i64.wrap (((m+1:Nat):Int)-1-1)=(m:Int)-1).symm,trivial⟩
      ·exact trivial
   ·have hk0:k=0:=by have:=of_decide_eq_false h;omega
    subst hk0
    rw[List.drop_zero,List.drop_zero]at hd
    exact⟨0,rfl,fun e=>absurd hab e,fun _=>⟨by rw[hd];omega,by rw[hd];simp⟩⟩
  ·exact⟨Nat.le_refl _,by rw[List.drop_length,List.drop_of_length_le (by omega)]⟩
  ·refine ZaC rfl rfl ?_ ?_
   ·exact⟨rfl,rfl,(Zar (by omega) (by omega)).symm,trivial⟩
   ·exact trivial
end Go.Proofs.YtkhpbclcfldhmaaGreatDoor
/-
 Integers of any size: Add, Sub, Cmp.
-/
namespace Go.Proofs.YtkhpbclcfldhmaaGreatDoor
open Go.Am Go.Tx Dv
set_option maxRecDepth 100000
theorem ZrH (m n:Nat) (hm:(wOf m).length≤1000000) (hn:(wOf n).length≤1000000):PureOK Tryz.prog Zao 66 [Za8 (wOf m),Za8 (wOf n)] (fun V=> ∃r:Int,V= .v (.i .i64) r∧(r<0↔m<n)∧(r=0↔m=n)):=by
 refine(ZpJ _ _ (Zdb m) (Zdb n) hm hn).mono ?_
 rintro _ ⟨r,rfl,h1,h2⟩
 refine⟨r,rfl, ?_⟩
 by_cases he:(wOf m).length=(wOf n).length
 ·obtain⟨h3,h4⟩:=h2 he
  rw[Zb5,Zb5]at h3 h4
  omega
 ·have h1:=h1 he
  have g1:(wOf m).length<(wOf n).length→m<n:=fun h=>by
   rcases Nat.lt_or_ge m n with h'|h'
   ·exact h'
   ·have:=Zbe h';omega
  have g2:(wOf n).length<(wOf m).length→n<m:=fun h=>by
   rcases Nat.lt_or_ge n m with h'|h'
   ·exact h'
   ·have:=Zbe h';omega
  omega
set_option maxHeartbeats 4000000 in
theorem Zts (a b:Int) (ha:ln a≤900000) (hb:ln b≤900000):PureOK Tryz.prog Zao 45 [IS a,IS b] (fun V=>V=IS (a+b)):=by
 have ha':(wOf a.natAbs).length≤900000:=ha
 have hb':(wOf b.natAbs).length≤900000:=hb
 refine Zae Zah Tryz.func45 ?_
 refine And.intro rfl ?_
 refine And.intro rfl ?_
 refine And.intro (fun h=> ?_) (fun h=> ?_)
 ·refine And.intro rfl ?_
  refine And.intro rfl ?_
  refine And.intro rfl ?_
  refine(Zqz _ _ (Zdb _) (Zdb _) (by omega) (by omega)).mono ?_
  rintro _ ⟨out,rfl,h1,h2,h3⟩
  refine(Zd6 _ out h1 (by omega)).mono ?_
  rintro _ rfl
  refine⟨rfl,rfl, ?_⟩
  have hs:(decide (a<0)==decide (b<0))=true:=h
  have:sg (decide (a<0)) (wv out)=a+b:=by
   rw[h3,Zb5,Zb5]
   by_cases h0:a<0<;>by_cases h1:b<0<;>simp only[decide_eq_true,decide_eq_false,h0,h1,not_false_eq_true]at hs⊢ <;>first
    |(simp at hs;done)
    |(simp only[sg];omega)
  show IS (sg (decide (a<0)) (wv out))=IS (a+b)
  rw[this]
 ·have hs:(decide (a<0)==decide (b<0))=false:=h
  refine And.intro rfl ?_
  refine And.intro rfl ?_
  refine(ZrH _ _ (by omega) (by omega)).mono ?_
  rintro _ ⟨r,rfl,hr1,hr2⟩
  refine And.intro (fun h2=> ?_) (fun h2=> ?_)
  ·have hr:0≤r:=of_decide_eq_true h2
   have hle:b.natAbs≤a.natAbs:=by omega
   refine And.intro rfl ?_
   refine And.intro rfl ?_
   refine And.intro rfl ?_
   refine(ZjZ _ _ (Zdb _) (Zdb _) (Zbe hle) (by omega) (by rw[Zb5,Zb5];omega)).mono ?_
   rintro _ ⟨out,rfl,h1,h2,h3⟩
   refine(Zd6 _ out h1 (by omega)).mono ?_
   rintro _ rfl
   refine⟨rfl,rfl, ?_⟩
   have:sg (decide (a<0)) (wv out)=a+b:=by
    rw[h3,Zb5,Zb5]
    by_cases h0:a<0<;>by_cases h1:b<0<;>simp only[decide_eq_true,decide_eq_false,h0,h1,not_false_eq_true]at hs⊢ <;>first
     |(simp at hs;done)
     |(simp only[sg];omega)
   show IS (sg (decide (a<0)) (wv out))=IS (a+b)
   rw[this]
  ·have hr: ¬0≤r:=of_decide_eq_false h2
   have hle:a.natAbs≤b.natAbs:=by omega
   refine And.intro rfl ?_
   refine And.intro rfl ?_
   refine And.intro rfl ?_
   refine(ZjZ _ _ (Zdb _) (Zdb _) (Zbe hle) (by omega) (by rw[Zb5,Zb5];omega)).mono ?_
   rintro _ ⟨out,rfl,h1,h2,h3⟩
   refine(Zd6 _ out h1 (by omega)).mono ?_
   rintro _ rfl
   refine⟨rfl,rfl, ?_⟩
   have:sg (decide (b<0)) (wv out)=a+b:=by
    rw[h3,Zb5,Zb5]
    by_cases h0:a<0<;>by_cases h1:b<0<;>simp only[decide_eq_true,decide_eq_false,h0,h1,not_false_eq_true]at hs⊢ <;>first
     |(simp at hs;done)
     |(simp only[sg];omega)
   show IS (sg (decide (b<0)) (wv out))=IS (a+b)
   rw[this]
set_option maxHeartbeats 4000000 in
theorem Zzl (a b:Int) (ha:ln a≤900000) (hb:ln b≤900000):PureOK Tryz.prog Zao 81 [IS a,IS b] (fun V=>V=IS (a-b)):=by
 refine Zae Zah Tryz.func81 ?_
 refine And.intro rfl ?_
 refine And.intro rfl ?_
 refine(Zt2 b (by omega)).mono ?_
 rintro _ rfl
 refine(Zts a (-b) ha (by rw[ZoE];exact hb)).mono ?_
 rintro _ rfl
 refine⟨rfl,rfl, ?_⟩
 show IS (a+ -b)=IS (a-b)
 rw[Int.sub_eq_add_neg]
end Go.Proofs.YtkhpbclcfldhmaaGreatDoor
/-
 math/bits.LeadingZeros32.
-/
namespace Go.Proofs.YtkhpbclcfldhmaaGreatDoor
open Go.Am Go.Tx Dv
set_option maxRecDepth 100000
def Zzz:List UInt8:=[0,1]++List.replicate 2 2++List.replicate 4 3++List.replicate 8 4++List.replicate 16 5++List.replicate 32 6++List.replicate 64 7++List.replicate 128 8
theorem Zuo: ∀j:Fin 256,∃L:Fin 9,Zzz[j.val]? =some (UInt8.ofNat L.val)∧j.val<2^L.val∧(1≤j.val→1≤L.val∧2^(L.val-1)≤j.val):=by decide+kernel
theorem Zkn (j:Int) (h0:0≤j) (h1:j<256): ∃L:Nat,Zzz[j.toNat]? =some (UInt8.ofNat L)∧L≤8∧(UInt8.ofNat L).toNat=L∧j<2^L∧(1≤j→1≤L∧2^(L-1)≤j):=by
 obtain⟨⟨L,hL⟩,h2,h3,h4⟩:=Zuo ⟨j.toNat,by omega⟩
 simp only at h2 h3 h4
 refine⟨L,h2,by omega,by rw[UInt8.toNat_ofNat'];omega, ?_,fun h=> ?_⟩
 ·have:((j.toNat:Nat):Int)<((2^L:Nat):Int):=Int.ofNat_lt.2 h3
  rw[Int.natCast_pow]at this
  have e:((2:Nat):Int)=2:=rfl
  rw[e]at this
  omega
 ·obtain⟨h5,h6⟩:=h4 (by omega)
  have:((2^(L-1):Nat):Int)≤((j.toNat:Nat):Int):=Int.ofNat_le.2 h6
  rw[Int.natCast_pow]at this
  have e:((2:Nat):Int)=2:=rfl
  rw[e]at this
  exact⟨h5,by omega⟩
theorem ZhU {x:Int} (h0:0≤x) (h1:x<256):IntKind.u8.wrap x=x:=by
 unfold IntKind.wrap IntKind.signed IntKind.bits
 simp only[Bool.false_and,Bool.false_eq_true,if_false]
 omega
theorem Zr8 (x:Int) (k:Nat) (hk:k≤32):x.fdiv (2^min k IntKind.u32.bits)=x/2^k:=by
 have:min k IntKind.u32.bits=k:=by show min k 32=k;omega
 rw[this,Int.fdiv_eq_ediv_of_nonneg _ (Int.le_of_lt (Int.pow_pos (by decide)))]
theorem ZnX {x y:Int} {k L:Nat} (hy:y=x/2^k) (h2:y<2^L) (h3:1≤y→1≤L∧2^(L-1)≤y) (hx:1≤x→1≤y):x<2^(k+L)∧(1≤x→1≤k+L∧2^(k+L-1)≤x):=by
 have hp:(0:Int)<2^k:=Int.pow_pos (by decide)
 constructor
 ·rw[Int.pow_add,Int.mul_comm]
  exact Int.lt_mul_of_ediv_lt hp (hy▸h2)
 ·intro h
  obtain⟨h4,h5⟩:=h3 (hx h)
  refine⟨by omega, ?_⟩
  rw[show k+L-1=k+(L-1)by omega,Int.pow_add,Int.mul_comm]
  exact(Int.le_ediv_iff_mul_le hp).1 (hy▸h5)
theorem j0 (a b:Int) (e:a=b) (h:0≤b):0≤a:=by omega
set_option maxHeartbeats 4000000 in
theorem ZvL (x:Int) (h0:0≤x) (h1:x<4294967296):PureOK Tryz.prog Zao 103 [.v (.i .u32) x] (fun V=> ∃L:Nat,V= .v (.i .i64) (L:Int)∧L≤32∧x<2^L∧(1≤x→1≤L∧2^(L-1)≤x)):=by
 refine Zae Zah Tryz.func103 ?_
 have e16:x.fdiv (2^min (Int.toNat 16) IntKind.u32.bits)=x/65536:=Zr8 x 16 (by decide)
 have e8: ∀x:Int,x.fdiv (2^min (Int.toNat 8) IntKind.u32.bits)=x/256:=fun x=>Zr8 x 8 (by decide)
 refine And.intro (fun h=> ?_) (fun h=> ?_)
 ·have hx:65536≤x:=of_decide_eq_true h
  refine And.intro (by decide) ?_
  refine And.intro (fun h2=> ?_) (fun h2=> ?_)
  ·have h3:256≤x.fdiv (2^min (Int.toNat 16) IntKind.u32.bits):=of_decide_eq_true h2
   refine And.intro (by decide) ?_
   have ey:IntKind.u8.wrap ((x.fdiv (2^min (Int.toNat 16) IntKind.u32.bits)).fdiv (2^min (Int.toNat 8) IntKind.u32.bits))=x/65536/256:=by rw[e8,e16];exact ZhU (by omega) (by omega)
   obtain⟨L,t1,t2,t3,t4,t5⟩:=Zkn (IntKind.u8.wrap ((x.fdiv (2^min (Int.toNat 16) IntKind.u32.bits)).fdiv (2^min (Int.toNat 8) IntKind.u32.bits))) (by rw[ey];omega) (by rw[ey];omega)
   have hj0:=j0 _ _ ey (by omega)
   refine⟨UInt8.ofNat L,hj0,t1, ?_⟩
   rw[e16]at h3
   rw[ey]at t4 t5
   obtain⟨g1,g2⟩:=ZnX (x:=x) (y:=x/65536/256) (k:=24) (by rw[Int.ediv_ediv_of_nonneg (by decide)];rfl) t4 t5 (by omega)
   refine⟨24+L,congrArg (SV.v (.i .i64)) (?_:IntKind.i64.wrap (IntKind.i64.wrap (16+8)+IntKind.i64.wrap ((UInt8.ofNat L).toNat:Int))=_),by omega,g1,g2⟩
   rw[t3,Zar (x:=(16+8:Int)) (by decide) (by decide),Zar (x:=(L:Int)) (by omega) (by omega),Zar (by omega) (by omega)]
   omega
  ·have h3: ¬256≤x.fdiv (2^min (Int.toNat 16) IntKind.u32.bits):=of_decide_eq_false h2
   rw[e16]at h3
   have ey:IntKind.u8.wrap (x.fdiv (2^min (Int.toNat 16) IntKind.u32.bits))=x/65536:=by rw[e16];exact ZhU (by omega) (by omega)
   obtain⟨L,t1,t2,t3,t4,t5⟩:=Zkn (IntKind.u8.wrap (x.fdiv (2^min (Int.toNat 16) IntKind.u32.bits))) (by rw[ey];omega) (by rw[ey];omega)
   have hj0:=j0 _ _ ey (by omega)
   refine⟨UInt8.ofNat L,hj0,t1, ?_⟩
   rw[ey]at t4 t5
   obtain⟨g1,g2⟩:=ZnX (x:=x) (y:=x/65536) (k:=16) rfl t4 t5 (by omega)
   refine⟨16+L,congrArg (SV.v (.i .i64)) (?_:IntKind.i64.wrap (16+IntKind.i64.wrap ((UInt8.ofNat L).toNat:Int))=_),by omega,g1,g2⟩
   rw[t3,Zar (x:=(L:Int)) (by omega) (by omega),Zar (by omega) (by omega)]
   omega
 ·have hx: ¬65536≤x:=of_decide_eq_false h
  refine And.intro (fun h2=> ?_) (fun h2=> ?_)
  ·have h3:256≤x:=of_decide_eq_true h2
   refine And.intro (by decide) ?_
   have ey:IntKind.u8.wrap (x.fdiv (2^min (Int.toNat 8) IntKind.u32.bits))=x/256:=by rw[e8];exact ZhU (by omega) (by omega)
   obtain⟨L,t1,t2,t3,t4,t5⟩:=Zkn (IntKind.u8.wrap (x.fdiv (2^min (Int.toNat 8) IntKind.u32.bits))) (by rw[ey];omega) (by rw[ey];omega)
   have hj0:=j0 _ _ ey (by omega)
   refine⟨UInt8.ofNat L,hj0,t1, ?_⟩
   rw[ey]at t4 t5
   obtain⟨g1,g2⟩:=ZnX (x:=x) (y:=x/256) (k:=8) rfl t4 t5 (by omega)
   refine⟨8+L,congrArg (SV.v (.i .i64)) (?_:IntKind.i64.wrap (IntKind.i64.wrap (0+8)+IntKind.i64.wrap ((UInt8.ofNat L).toNat:Int))=_),by omega,g1,g2⟩
   rw[t3,Zar (x:=(0+8:Int)) (by decide) (by decide),Zar (x:=(L:Int)) (by omega) (by omega),Zar (by omega) (by omega)]
   omega
  ·have h3: ¬256≤x:=of_decide_eq_false h2
   have ey:IntKind.u8.wrap x=x:=ZhU (by omega) (by omega)
   obtain⟨L,t1,t2,t3,t4,t5⟩:=Zkn (IntKind.u8.wrap x) (by rw[ey];omega) (by rw[ey];omega)
   have hj0:=j0 _ _ ey (by omega)
   refine⟨UInt8.ofNat L,hj0,t1, ?_⟩
   rw[ey]at t4 t5
   refine⟨L,congrArg (SV.v (.i .i64)) (?_:IntKind.i64.wrap (0+IntKind.i64.wrap ((UInt8.ofNat L).toNat:Int))=_),by omega,t4,t5⟩
   rw[t3,Zar (x:=(L:Int)) (by omega) (by omega),Zar (by omega) (by omega)]
   omega
set_option maxHeartbeats 4000000 in
theorem Zhz (x:Int) (h0:1≤x) (h1:x<4294967296):PureOK Tryz.prog Zao 89 [.v (.i .u32) x] (fun V=> ∃s:Nat,V= .v (.i .i64) (s:Int)∧s≤31∧x*2^s<4294967296∧2147483648≤x*2^s):=by
 refine Zae Zah Tryz.func89 ?_
 refine(ZvL x (by omega) h1).mono ?_
 rintro _ ⟨L,rfl,h2,h3,h4⟩
 obtain⟨h5,h6⟩:=h4 h0
 refine⟨32-L,congrArg (SV.v (.i .i64)) (?_:IntKind.i64.wrap (32-(L:Int))=_),by omega, ?_, ?_⟩
 ·rw[Zar (by omega) (by omega)];omega
 ·have hp:(0:Int)<2^(32-L):=Int.pow_pos (by decide)
  have:=Int.mul_lt_mul_of_pos_right h3 hp
  rw[←Int.pow_add,show L+(32-L)=32 by omega]at this
  exact this
 ·have hp:(0:Int)≤2^(32-L):=Int.le_of_lt (Int.pow_pos (by decide))
  have:=Int.mul_le_mul_of_nonneg_right h6 hp
  rw[←Int.pow_add,show L-1+(32-L)=31 by omega]at this
  exact this
end Go.Proofs.YtkhpbclcfldhmaaGreatDoor

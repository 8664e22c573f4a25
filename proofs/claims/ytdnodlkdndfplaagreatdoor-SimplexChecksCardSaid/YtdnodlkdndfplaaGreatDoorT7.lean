/-
 Integers of any size as values: Neg, Sign, Of.
-/
import Derived.Test.YtdnodlkdndfplaaGreatDoorT3
set_option linter.constructorNameAsVariable false
set_option linter.unusedSimpArgs false
set_option linter.unusedVariables false
namespace Go.Proofs.YtdnodlkdndfplaaGreatDoor
open Go.Am Go.Tx Dv
set_option maxRecDepth 100000
abbrev IS (v:Int):SV:= .agg [.v .b (decide (v<0)),ZaX (wOf v.natAbs)]
def sg (m:Bool) (x:Int):Int:=match m with|true=> -x|false=>x
theorem Zfq (m:Bool) (a:List Int) (ha:Wd a) (hl:a.length≤1000000):PureOK Tryz.prog Zau 141 [.v .b m,ZaX a] (fun V=>V=IS (sg m (wv a))):=by
 refine(Zs5 m a ha hl).mono ?_
 rintro _ ⟨s,rfl,h1,h2,_,h4⟩
 have h0:=Zjo ha
 have hs:s=wOf (wv a).toNat:=ZlK h1 h2 (by omega)
 have hab:(sg m (wv a)).natAbs=(wv a).toNat:=by cases m<;>simp only[sg]<;>omega
 have hb:(m&&decide (0<(s.length:Int)))=decide (sg m (wv a)<0):=by
  have hl0:s.length=0↔wv a=0:=by
   rw[List.length_eq_zero_iff,hs,Zd7];omega
  cases m with
  |true=>
   simp only[Bool.true_and,sg]
   refine decide_eq_decide.2 ?_
   constructor
   ·intro h;have:=mt hl0.2;omega
   ·intro h;have:=mt hl0.1;omega
  |false=>
   simp only[Bool.false_and,sg]
   exact(decide_eq_false (by omega)).symm
 show SV.agg [.v .b (m&&decide (0<(s.length:Int))),ZaX s]=SV.agg [.v .b (decide (sg m (wv a)<0)),ZaX (wOf (sg m (wv a)).natAbs)]
 rw[hb,hab,←hs]
set_option maxHeartbeats 4000000 in
theorem ZsX (v:Int):PureOK Tryz.prog Zau 155 [IS v] (fun V=>V= .v (.i .i64) v.sign):=by
 refine Zaj Zao Tryz.func155 ?_
 refine And.intro rfl ?_
 refine And.intro (fun h=> ?_) (fun h=> ?_)
 ·have h':((wOf v.natAbs).length:Int)=0:=of_decide_eq_true h
  have:v=0:=by
   have:=Zd7.1 (List.length_eq_zero_iff.1 (show(wOf v.natAbs).length=0 by omega));omega
  subst this
  rfl
 ·have h': ¬ ((wOf v.natAbs).length:Int)=0:=of_decide_eq_false h
  have hv:v≠0:=by
   rintro rfl
   exact h' (by rw[show(0:Int).natAbs=0 from rfl,Zc5];rfl)
  refine And.intro rfl ?_
  refine And.intro (fun h2=> ?_) (fun h2=> ?_)
  ·have h3:v<0:=of_decide_eq_true h2
   show SV.v (.i .i64) (-1:Int)=SV.v (.i .i64) v.sign
   rw[Int.sign_eq_neg_one_of_neg h3]
  ·have h3: ¬v<0:=of_decide_eq_false h2
   show SV.v (.i .i64) (1:Int)=SV.v (.i .i64) v.sign
   rw[Int.sign_eq_one_of_pos (by omega)]
theorem Zix (x:Int):IntKind.u64.wrap x=x % 18446744073709551616:=by
 unfold IntKind.wrap IntKind.signed IntKind.bits
 simp
set_option maxHeartbeats 4000000 in
theorem Zuq (n:Int) (h0: -9223372036854775808≤n) (h1:n<9223372036854775808):PureOK Tryz.prog Zau 110 [.v (.i .i64) n] (fun V=>V=IS n):=by
 refine Zaj Zao Tryz.func110 ?_
 have fin: ∀ (m:Bool) (x:Int),0≤x→x<18446744073709551616→sg m x=n→PureOK Tryz.prog Zau 141 [.v .b m,ZaX [IntKind.u32.wrap x,IntKind.u32.wrap (x.fdiv (2^min (Int.toNat 32) IntKind.u64.bits))]] (fun V=>V=IS n):=by
  intro m x hx0 hx1 hs
  have e1:IntKind.u32.wrap x=x % 4294967296:=ZaJ x
  have e2:IntKind.u32.wrap (x.fdiv (2^min (Int.toNat 32) IntKind.u64.bits))=x/4294967296:=by rw[Zlj,ZaJ];omega
  rw[e1,e2]
  refine(Zfq m _ ?_ (by simp)).mono ?_
  ·intro y hy
   simp only[List.mem_cons,List.not_mem_nil,or_false]at hy
   rcases hy with rfl|rfl<;>omega
  ·rintro _ rfl
   have:wv [x % 4294967296,x/4294967296]=x:=by simp only[wv];omega
   rw[this,hs]
 refine And.intro (fun h=> ?_) (fun h=> ?_)
 ·have hn:n<0:=of_decide_eq_true h
  have e:IntKind.u64.wrap (0-IntKind.u64.wrap n)= -n:=by rw[Zix,Zix];omega
  refine And.intro (by decide) ?_
  refine And.intro (by show 0+2≤2;decide) ?_
  refine(fin (decide (n<0)) (IntKind.u64.wrap (0-IntKind.u64.wrap n)) (by rw[e];omega) (by rw[e];omega) (by rw[e,h];simp only[sg];omega)).mono ?_
  rintro _ rfl
  exact⟨rfl,rfl,rfl⟩
 ·have hn: ¬n<0:=of_decide_eq_false h
  have e:IntKind.u64.wrap n=n:=by rw[Zix];omega
  refine And.intro (by decide) ?_
  refine And.intro (by show 0+2≤2;decide) ?_
  refine(fin (decide (n<0)) (IntKind.u64.wrap n) (by rw[e];omega) (by rw[e];omega) (by rw[e,h];simp only[sg])).mono ?_
  rintro _ rfl
  exact⟨rfl,rfl,rfl⟩
end Go.Proofs.YtdnodlkdndfplaaGreatDoor
/-
 Long division by words: the plain law of one digit of the quotient.
-/
namespace Dv
section
variable {P U V U' V' v1 v2 u2 top q g rest : Int}
theorem Zqe (hP:0<P) (hV:V=(v1*4294967296+v2)*P+V') (hV0:0≤V') (h2:0≤v2) (hU:U=(top*4294967296+u2)*P+U') (hU1:U'<P) (hu:u2<4294967296) (hv:0<v1) (hq0:0≤q) (hq:q*V≤U):q≤top/v1:=by
 have e1:q*V=q*v1*(4294967296*P)+(q*v2*P+q*V'):=by rw[hV];grind
 have p1:0≤q*v2*P:=Int.mul_nonneg (Int.mul_nonneg hq0 h2) (by omega)
 have p2:0≤q*V':=Int.mul_nonneg hq0 hV0
 have p3:u2*P≤4294967295*P:=Int.mul_le_mul_of_nonneg_right (by omega) (by omega)
 have e2:U=top*(4294967296*P)+u2*P+U':=by rw[hU];grind
 have h1:q*v1*(4294967296*P)<(top+1)*(4294967296*P):=by
  have e3:(top+1)*(4294967296*P)=top*(4294967296*P)+4294967296*P:=by grind
  omega
 have h3:=Int.lt_of_mul_lt_mul_right h1 (by omega)
 rw[Int.le_ediv_iff_mul_le hv]
 omega
theorem Znk (hP:0<P) (hV:V=(v1*4294967296+v2)*P+V') (hV0:0≤V') (hV1:0<V) (hU:U=(top*4294967296+u2)*P+U') (hU1:U'<P) (hg:0≤g) (hr:g*v1+rest=top) (hc:rest*4294967296+u2<g*v2) (hq:q*V≤U):q<g:=by
 have h1:top*4294967296+u2+1≤g*(v1*4294967296+v2):=by
  have:g*(v1*4294967296+v2)=g*v1*4294967296+g*v2:=by grind
  omega
 have h2:=Int.mul_le_mul_of_nonneg_right h1 (Int.le_of_lt hP)
 have e1:g*V=g*(v1*4294967296+v2)*P+g*V':=by rw[hV];grind
 have p1:0≤g*V':=Int.mul_nonneg hg hV0
 have e2:(top*4294967296+u2+1)*P=(top*4294967296+u2)*P+P:=by grind
 have h3:q*V<g*V:=by omega
 exact Int.lt_of_mul_lt_mul_right h3 (by omega)
theorem ZiJ (hP:0<P) (hV:V=(v1*4294967296+v2)*P+V') (hV0:0≤V') (hV1:V'<P) (h2:0≤v2) (hv:0<v1) (hU:U=(top*4294967296+u2)*P+U') (hU0:0≤U') (hg0:0≤g) (hg1:g<4294967296) (hc:g*(v1*4294967296+v2)≤top*4294967296+u2):g*V-V≤U:=by
 have h3:=Int.mul_le_mul_of_nonneg_right hc (Int.le_of_lt hP)
 have e1:g*V=g*(v1*4294967296+v2)*P+g*V':=by rw[hV];grind
 have p1:g*V'≤g*P:=Int.mul_le_mul_of_nonneg_left (by omega) hg0
 have p2:g*P≤4294967296*P:=Int.mul_le_mul_of_nonneg_right (by omega) (by omega)
 have p3:(1:Int)*(4294967296*P)≤v1*(4294967296*P):=Int.mul_le_mul_of_nonneg_right (by omega) (by omega)
 have e2:V=v1*(4294967296*P)+v2*P+V':=by rw[hV];grind
 have p4:0≤v2*P:=Int.mul_nonneg h2 (by omega)
 omega
theorem ZmJ (hr:g*v1+rest=top) (hc:g*v2≤rest*4294967296+u2):g*(v1*4294967296+v2)≤top*4294967296+u2:=by
 have:g*(v1*4294967296+v2)=g*v1*4294967296+g*v2:=by grind
 omega
theorem ZgF (hr:g*v1+rest=top) (hrest:4294967296≤rest) (hg0:0≤g) (hg1:g<4294967296) (h2:0≤v2) (h3:v2<4294967296) (hu:0≤u2):g*(v1*4294967296+v2)≤top*4294967296+u2:=by
 have e1:g*(v1*4294967296+v2)=g*v1*4294967296+g*v2:=by grind
 have p1:g*v2≤4294967296*v2:=Int.mul_le_mul_of_nonneg_right (by omega) h2
 omega
end
end Dv

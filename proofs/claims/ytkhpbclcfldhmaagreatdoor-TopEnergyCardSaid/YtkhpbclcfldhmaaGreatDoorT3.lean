import Derived.Test.YtkhpbclcfldhmaaGreatDoorT1
set_option linter.constructorNameAsVariable false
set_option linter.unusedSimpArgs false
set_option linter.unusedVariables false
namespace Go.Proofs.YtkhpbclcfldhmaaGreatDoor
open Go.Am Go.Tx Dv
set_option maxRecDepth 100000
set_option maxHeartbeats 4000000 in
theorem Zvo (p:FuncId→Option (List PV→Option PV)) (hp:p 64=none) (m:Bool) (a:List Int) (ha:Wd a) (hl:a.length≤1000000):PureOK Tryz.prog (Zpj p) 64 [.v .b m,Za8 a] (fun V=> ∃s,V= .agg [.v .b (m&&decide (0<(s.length:Int))),Za8 s]∧Wd s∧Nz s∧s.length≤a.length∧wv s=wv a):=by
 refine ZiH (fn:=Tryz.f64) (code:=Zdg Tryz.f64) Zah (by kernel_rfl) hp Tryz.func64 (by kernel_rfl) (Nat.le_of_ble_eq_true (by kernel_rfl)) ?_
 refine Zaz Zah rfl (fun(k:Nat)=> [(0, .v .b m),(1,Za8 (a.take k)),(4, .ptr 0 0 0)]) (fun _=> [.cell [.v .b false, .nils] true])
  (fun k=>k≤a.length∧wv (a.take k)=wv a) (fun k=>k) ?_ a.length ?_ ?_
 ·rintro k ⟨hk,hval⟩
  have nf: ∀ {b:Bool},b=true→b=false→False:=fun h h'=>by rw[h]at h';cases h'
  refine And.intro (fun h=> ?_) (fun h=> ?_)
  ·refine And.intro (fun _=> ?_) (fun h'=>(nf h h').elim)
   refine And.intro (fun _=> ?_) (fun h'=>(nf h h').elim)
   refine And.intro (fun _=> ?_) (fun h'=>(nf h h').elim)
   refine And.intro (fun _=> ?_) (fun h'=>(nf h h').elim)
   have hkl:(a.take k).length=k:=by rw[List.length_take];omega
   have hk1:1≤k:=by have:=of_decide_eq_true h;rw[hkl]at this;omega
   obtain⟨j,rfl⟩: ∃j,k=j+1:=⟨k-1,by omega⟩
   have ej:IntKind.i64.wrap (((a.take (j+1)).length:Int)-1)=(j:Int):=by rw[hkl,Zar (by omega) (by omega)];omega
   have hj0:0≤IntKind.i64.wrap (((a.take (j+1)).length:Int)-1):=by rw[ej];omega
   have hg:(a.take (j+1))[(IntKind.i64.wrap (((a.take (j+1)).length:Int)-1)).toNat]? =some a[j]:=by
    rw[ej,Int.toNat_natCast,List.getElem?_take_of_lt (by omega)];exact List.getElem?_eq_getElem (by omega)
   refine⟨a[j],hj0,hg, ?_⟩
   refine And.intro (fun _=> ?_) (fun h'=>(nf h h').elim)
   refine And.intro (fun _=> ?_) (fun h'=>(nf h h').elim)
   refine And.intro (fun _=> ?_) (fun h'=>(nf h h').elim)
   refine And.intro (fun h2=> ?_) (fun h2=> ?_)
   ·refine And.intro ⟨hj0,by show IntKind.i64.wrap (((a.take (j+1)).length:Int)-1)≤((a.take (j+1)).length:Int);rw[ej,hkl];omega⟩ ?_
    have hz:a[j]=0:=of_decide_eq_true h2
    have et:a.take j=List.drop 0 (List.take (IntKind.i64.wrap (((a.take (j+1)).length:Int)-1)).toNat (a.take (j+1))):=by
     rw[ej,Int.toNat_natCast,List.drop_zero,List.take_take,Nat.min_eq_left (by omega)]
    refine⟨j,⟨by show j≤a.length;omega, ?_⟩,by show j<j+1;omega, ?_⟩
    ·show wv (a.take j)=wv a
     rw[←hval,Zbx (by omega:j<a.length),hz];omega
    ·refine ZaC rfl rfl ?_ ?_
     ·exact⟨rfl,et,⟨rfl,rfl⟩,trivial⟩
     ·exact⟨⟨⟨rfl,trivial,trivial⟩,fun _=>rfl⟩,trivial⟩
   ·have hnz:Nz (a.take (j+1)):=by
     intro hne
     rw[List.getLast_eq_getElem]
     simp only[hkl,Nat.add_sub_cancel,List.getElem_take]
     exact of_decide_eq_false h2
    have hwd:Wd (a.take (j+1)):=fun x hx=>ha x (List.mem_of_mem_take hx)
    refine And.intro (fun hm=> ?_) (fun hm=> ?_)
    ·refine And.intro (fun _=> ?_) (fun h'=>(nf hm h').elim)
     refine And.intro (fun _=> ?_) (fun h'=>(nf hm h').elim)
     refine And.intro (fun _=> ?_) (fun h'=>(nf hm h').elim)
     subst hm
     exact⟨rfl,rfl,a.take (j+1),rfl,hwd,hnz,by rw[hkl];exact hk,hval⟩
    ·refine And.intro (fun h'=>(nf h' hm).elim) (fun _=> ?_)
     refine And.intro (fun h'=>(nf h' hm).elim) (fun _=> ?_)
     refine And.intro (fun h'=>(nf h' hm).elim) (fun _=> ?_)
     subst hm
     exact⟨rfl,rfl,a.take (j+1),rfl,hwd,hnz,by rw[hkl];exact hk,hval⟩
  ·have hkl:(a.take k).length=k:=by rw[List.length_take];omega
   have hk0:k=0:=by have:=of_decide_eq_false h;rw[hkl]at this;omega
   subst hk0
   refine And.intro (fun h'=>(nf h' h).elim) (fun _=> ?_)
   refine And.intro (fun h'=>(nf h' h).elim) (fun _=> ?_)
   refine And.intro (fun h'=>(nf h' h).elim) (fun _=> ?_)
   refine And.intro (fun h'=>(nf h' h).elim) (fun _=> ?_)
   refine And.intro (fun h'=>(nf h' h).elim) (fun _=> ?_)
   refine And.intro (fun h'=>(nf h' h).elim) (fun _=> ?_)
   refine And.intro (fun h'=>(nf h' h).elim) (fun _=> ?_)
   refine And.intro (fun h'=>nomatch h') (fun _=> ?_)
   refine And.intro (fun hm=> ?_) (fun hm=> ?_)
   ·refine And.intro (fun _=> ?_) (fun h'=>(nf hm h').elim)
    refine And.intro (fun _=> ?_) (fun h'=>(nf hm h').elim)
    refine And.intro (fun _=> ?_) (fun h'=>(nf hm h').elim)
    subst hm
    exact⟨rfl,rfl,[],rfl,fun x hx=>(by simp at hx),fun hne=>absurd rfl hne,Nat.zero_le _,hval⟩
   ·refine And.intro (fun h'=>(nf h' hm).elim) (fun _=> ?_)
    refine And.intro (fun h'=>(nf h' hm).elim) (fun _=> ?_)
    refine And.intro (fun h'=>(nf h' hm).elim) (fun _=> ?_)
    subst hm
    exact⟨rfl,rfl,[],rfl,fun x hx=>(by simp at hx),fun hne=>absurd rfl hne,Nat.zero_le _,hval⟩
 ·exact⟨Nat.le_refl _,by rw[List.take_length]⟩
 ·refine ZaC rfl rfl ?_ ?_
  ·exact⟨rfl,(List.take_length).symm▸rfl,⟨rfl,rfl⟩,trivial⟩
  ·exact⟨⟨⟨rfl,trivial,trivial⟩,fun _=>rfl⟩,trivial⟩
theorem Zxw (m:Bool) (a:List Int) (ha:Wd a) (hl:a.length≤1000000):PureOK Tryz.prog Zao 64 [.v .b m,Za8 a] (fun V=> ∃s,V= .agg [.v .b (m&&decide (0<(s.length:Int))),Za8 s]∧Wd s∧Nz s∧s.length≤a.length∧wv s=wv a):=Zvo prims rfl m a ha hl
end Go.Proofs.YtkhpbclcfldhmaaGreatDoor
/-
 The words of a number.
-/
namespace Dv
def wOf (n:Nat):List Int:=if h:n=0 then[]else((n % 4294967296:Nat):Int)::wOf (n/4294967296)
termination_by n
decreasing_by omega
theorem Zd7:wOf 0=[]:=by rw[wOf,dif_pos rfl]
theorem Zk3 {n:Nat} (h:n≠0):wOf n=((n % 4294967296:Nat):Int)::wOf (n/4294967296):=by rw[wOf,dif_neg h]
theorem Zek {n:Nat}:wOf n=[]↔n=0:=by
 constructor
 ·intro h
  rcases Nat.eq_zero_or_pos n with h0|h0
  ·exact h0
  ·rw[Zk3 (by omega)]at h;cases h
 ·rintro rfl;exact Zd7
theorem ZkA (n:Nat):Wd (wOf n)∧Nz (wOf n)∧wv (wOf n)=n:=by
 induction n using Nat.strongRecOn with
 |_ n ih=>
  by_cases h:n=0
  ·subst h
   rw[Zd7]
   exact⟨fun x hx=>by simp at hx,fun h=>absurd rfl h,rfl⟩
  ·obtain⟨h1,h2,h3⟩:=ih (n/4294967296) (by omega)
   rw[Zk3 h]
   refine⟨fun x hx=> ?_,fun hne=> ?_, ?_⟩
   ·rcases List.mem_cons.1 hx with rfl|hx
    ·omega
    ·exact h1 x hx
   ·by_cases hz:wOf (n/4294967296)=[]
    ·have:n/4294967296=0:=Zek.1 hz
     simp only[hz,List.getLast_singleton]
     omega
    ·rw[List.getLast_cons hz]
     exact h2 hz
   ·rw[wv,h3];omega
theorem Zdb (n:Nat):Wd (wOf n):=(ZkA n).1
theorem ZxG (n:Nat):Nz (wOf n):=(ZkA n).2.1
theorem Zb5 (n:Nat):wv (wOf n)=n:=(ZkA n).2.2
theorem ZlE {l:List Int} (h:Wd l):0≤wv l:=(Za7 h).1
theorem Zoe: ∀ {l:List Int} {n:Nat},Wd l→Nz l→wv l=n→l=wOf n
 | [],n,_,_,h=>by
  have:n=0:=by simp only[wv]at h;omega
  rw[this,Zd7]
 |x::l,n,h1,h2,h3=>by
  have hx:=h1 x List.mem_cons_self
  have hl:Wd l:=fun y hy=>h1 y (List.mem_cons_of_mem _ hy)
  have hp:=Zmr h1 h2 (by simp)
  have h0:=ZlE hl
  simp only[wv]at h3 hp
  have hn:Nz l:=fun hne=>by
   have:=h2 (by simp)
   rwa[List.getLast_cons hne]at this
  rw[Zk3 (by omega),←Zoe (l:=l) (n:=n/4294967296) hl hn (by omega)]
  congr 1
  omega
theorem Zcg {n k:Nat}:(wOf n).length≤k↔n<4294967296^k:=by
 induction k generalizing n with
 |zero=>
  simp only[Nat.le_zero_eq,List.length_eq_zero_iff,Zek,Nat.pow_zero]
  omega
 |succ k ih=>
  by_cases h:n=0
  ·subst h
   rw[Zd7]
   simp only[List.length_nil,Nat.zero_le,true_iff]
   exact Nat.pow_pos (by decide)
  ·rw[Zk3 h,List.length_cons,Nat.add_le_add_iff_right,ih,Nat.pow_succ]
   omega
theorem Zbe {m n:Nat} (h:m≤n):(wOf m).length≤(wOf n).length:=by
 rw[Zcg]
 exact Nat.lt_of_le_of_lt h (Zcg.1 (Nat.le_refl _))
theorem Znf (m n:Nat):(wOf (m+n)).length≤max (wOf m).length (wOf n).length+1:=by
 rw[Zcg,Nat.pow_succ]
 have h1:m<4294967296^max (wOf m).length (wOf n).length:=Zcg.1 (Nat.le_max_left _ _)
 have h2:n<4294967296^max (wOf m).length (wOf n).length:=Zcg.1 (Nat.le_max_right _ _)
 omega
theorem Znu (m n:Nat):(wOf (m*n)).length≤(wOf m).length+(wOf n).length:=by
 rw[Zcg,Nat.pow_add]
 have h1:m<4294967296^(wOf m).length:=Zcg.1 (Nat.le_refl _)
 have h2:n<4294967296^(wOf n).length:=Zcg.1 (Nat.le_refl _)
 exact Nat.mul_lt_mul'' h1 h2
def ln (v:Int):Nat:=(wOf v.natAbs).length
theorem ZoE (v:Int):ln (-v)=ln v:=by rw[ln,Int.natAbs_neg];rfl
theorem Zxt (a b:Int):ln (a+b)≤max (ln a) (ln b)+1:=Nat.le_trans (Zbe (Int.natAbs_add_le a b)) (Znf _ _)
theorem Zhs (a b:Int):ln (a*b)≤ln a+ln b:=by rw[ln,Int.natAbs_mul];exact Znu _ _
theorem Zze {v:Int} {k:Nat}:ln v≤k↔v.natAbs<4294967296^k:=Zcg
theorem Znn {a b:Int} (h:a.natAbs≤b.natAbs):ln a≤ln b:=Zbe h
theorem ZfU {v:Int} (h:v.natAbs<18446744073709551616):ln v≤2:=Zze.2 (by simpa using h)
end Dv
/-
 Integers of any size as values: Neg, Sign, Of.
-/
namespace Go.Proofs.YtkhpbclcfldhmaaGreatDoor
open Go.Am Go.Tx Dv
set_option maxRecDepth 100000
abbrev IS (v:Int):SV:= .agg [.v .b (decide (v<0)),Za8 (wOf v.natAbs)]
def sg (m:Bool) (x:Int):Int:=match m with|true=> -x|false=>x
theorem Zd6 (m:Bool) (a:List Int) (ha:Wd a) (hl:a.length≤1000000):PureOK Tryz.prog Zao 64 [.v .b m,Za8 a] (fun V=>V=IS (sg m (wv a))):=by
 refine(Zxw m a ha hl).mono ?_
 rintro _ ⟨s,rfl,h1,h2,_,h4⟩
 have h0:=ZlE ha
 have hs:s=wOf (wv a).toNat:=Zoe h1 h2 (by omega)
 have hab:(sg m (wv a)).natAbs=(wv a).toNat:=by cases m<;>simp only[sg]<;>omega
 have hb:(m&&decide (0<(s.length:Int)))=decide (sg m (wv a)<0):=by
  have hl0:s.length=0↔wv a=0:=by
   rw[List.length_eq_zero_iff,hs,Zek];omega
  cases m with
  |true=>
   simp only[Bool.true_and,sg]
   refine decide_eq_decide.2 ?_
   constructor
   ·intro h;have:=mt hl0.2;omega
   ·intro h;have:=mt hl0.1;omega
  |false=>
   simp only[Bool.false_and,sg]
   exact(decide_eq_false (by omega)).symm
 show SV.agg [.v .b (m&&decide (0<(s.length:Int))),Za8 s]=SV.agg [.v .b (decide (sg m (wv a)<0)),Za8 (wOf (sg m (wv a)).natAbs)]
 rw[hb,hab,←hs]
set_option maxHeartbeats 4000000 in
theorem Zt2 (v:Int) (hl:ln v≤1000000):PureOK Tryz.prog Zao 62 [IS v] (fun V=>V=IS (-v)):=by
 refine Zae Zah Tryz.func62 ?_
 refine And.intro rfl ?_
 refine And.intro rfl ?_
 refine(Zd6 _ _ (Zdb _) hl).mono ?_
 rintro _ rfl
 refine And.intro rfl ?_
 refine And.intro rfl ?_
 have:sg (!decide (v<0)) (wv (wOf v.natAbs))= -v:=by
  rw[Zb5]
  by_cases h:v<0
  ·rw[decide_eq_true h];simp only[sg,Bool.not_true];omega
  ·rw[decide_eq_false h];simp only[sg,Bool.not_false];omega
 show IS (sg (!decide (v<0)) (wv (wOf v.natAbs)))=IS (-v)
 rw[this]
set_option maxHeartbeats 4000000 in
theorem ZxV (v:Int):PureOK Tryz.prog Zao 74 [IS v] (fun V=>V= .v (.i .i64) v.sign):=by
 refine Zae Zah Tryz.func74 ?_
 refine And.intro rfl ?_
 refine And.intro (fun h=> ?_) (fun h=> ?_)
 ·have h':((wOf v.natAbs).length:Int)=0:=of_decide_eq_true h
  have:v=0:=by
   have:=Zek.1 (List.length_eq_zero_iff.1 (show(wOf v.natAbs).length=0 by omega));omega
  subst this
  rfl
 ·have h': ¬ ((wOf v.natAbs).length:Int)=0:=of_decide_eq_false h
  have hv:v≠0:=by
   rintro rfl
   exact h' (by rw[show(0:Int).natAbs=0 from rfl,Zd7];rfl)
  refine And.intro rfl ?_
  refine And.intro (fun h2=> ?_) (fun h2=> ?_)
  ·have h3:v<0:=of_decide_eq_true h2
   show SV.v (.i .i64) (-1:Int)=SV.v (.i .i64) v.sign
   rw[Int.sign_eq_neg_one_of_neg h3]
  ·have h3: ¬v<0:=of_decide_eq_false h2
   show SV.v (.i .i64) (1:Int)=SV.v (.i .i64) v.sign
   rw[Int.sign_eq_one_of_pos (by omega)]
theorem ZkW (x:Int):IntKind.u64.wrap x=x % 18446744073709551616:=by
 unfold IntKind.wrap IntKind.signed IntKind.bits
 simp
set_option maxHeartbeats 4000000 in
theorem Zu5 (n:Int) (h0: -9223372036854775808≤n) (h1:n<9223372036854775808):PureOK Tryz.prog Zao 46 [.v (.i .i64) n] (fun V=>V=IS n):=by
 refine Zae Zah Tryz.func46 ?_
 have fin: ∀ (m:Bool) (x:Int),0≤x→x<18446744073709551616→sg m x=n→PureOK Tryz.prog Zao 64 [.v .b m,Za8 [IntKind.u32.wrap x,IntKind.u32.wrap (x.fdiv (2^min (Int.toNat 32) IntKind.u64.bits))]] (fun V=>V=IS n):=by
  intro m x hx0 hx1 hs
  have e1:IntKind.u32.wrap x=x % 4294967296:=Za0 x
  have e2:IntKind.u32.wrap (x.fdiv (2^min (Int.toNat 32) IntKind.u64.bits))=x/4294967296:=by rw[ZnV,Za0];omega
  rw[e1,e2]
  refine(Zd6 m _ ?_ (by simp)).mono ?_
  ·intro y hy
   simp only[List.mem_cons,List.not_mem_nil,or_false]at hy
   rcases hy with rfl|rfl<;>omega
  ·rintro _ rfl
   have:wv [x % 4294967296,x/4294967296]=x:=by simp only[wv];omega
   rw[this,hs]
 refine And.intro (fun h=> ?_) (fun h=> ?_)
 ·have hn:n<0:=of_decide_eq_true h
  have e:IntKind.u64.wrap (0-IntKind.u64.wrap n)= -n:=by rw[ZkW,ZkW];omega
  refine And.intro (by decide) ?_
  refine And.intro (by show 0+2≤2;decide) ?_
  refine(fin (decide (n<0)) (IntKind.u64.wrap (0-IntKind.u64.wrap n)) (by rw[e];omega) (by rw[e];omega) (by rw[e,h];simp only[sg];omega)).mono ?_
  rintro _ rfl
  exact⟨rfl,rfl,rfl⟩
 ·have hn: ¬n<0:=of_decide_eq_false h
  have e:IntKind.u64.wrap n=n:=by rw[ZkW];omega
  refine And.intro (by decide) ?_
  refine And.intro (by show 0+2≤2;decide) ?_
  refine(fin (decide (n<0)) (IntKind.u64.wrap n) (by rw[e];omega) (by rw[e];omega) (by rw[e,h];simp only[sg])).mono ?_
  rintro _ rfl
  exact⟨rfl,rfl,rfl⟩
end Go.Proofs.YtkhpbclcfldhmaaGreatDoor
/-
 Long division by words: the plain law of one digit of the quotient.
-/
namespace Dv
section
variable {P U V U' V' v1 v2 u2 top q g rest : Int}
theorem Ztp (hP:0<P) (hV:V=(v1*4294967296+v2)*P+V') (hV0:0≤V') (h2:0≤v2) (hU:U=(top*4294967296+u2)*P+U') (hU1:U'<P) (hu:u2<4294967296) (hv:0<v1) (hq0:0≤q) (hq:q*V≤U):q≤top/v1:=by
 have e1:q*V=q*v1*(4294967296*P)+(q*v2*P+q*V'):=by rw[hV];grind
 have p1:0≤q*v2*P:=Int.mul_nonneg (Int.mul_nonneg hq0 h2) (by omega)
 have p2:0≤q*V':=Int.mul_nonneg hq0 hV0
 have p3:u2*P≤4294967295*P:=Int.mul_le_mul_of_nonneg_right (by omega) (by omega)
 have e2:U=top*(4294967296*P)+u2*P+U':=by rw[hU];grind
 have h1:q*v1*(4294967296*P)<(top+1)*(4294967296*P):=by
  have e3:(top+1)*(4294967296*P)=top*(4294967296*P)+4294967296*P:=by grind
  omega
 have h3:=Int.lt_of_mul_lt_mul_right h1 (by omega)
 rw[Int.le_ediv_iff_mul_le hv]
 omega
theorem ZpP (hP:0<P) (hV:V=(v1*4294967296+v2)*P+V') (hV0:0≤V') (hV1:0<V) (hU:U=(top*4294967296+u2)*P+U') (hU1:U'<P) (hg:0≤g) (hr:g*v1+rest=top) (hc:rest*4294967296+u2<g*v2) (hq:q*V≤U):q<g:=by
 have h1:top*4294967296+u2+1≤g*(v1*4294967296+v2):=by
  have:g*(v1*4294967296+v2)=g*v1*4294967296+g*v2:=by grind
  omega
 have h2:=Int.mul_le_mul_of_nonneg_right h1 (Int.le_of_lt hP)
 have e1:g*V=g*(v1*4294967296+v2)*P+g*V':=by rw[hV];grind
 have p1:0≤g*V':=Int.mul_nonneg hg hV0
 have e2:(top*4294967296+u2+1)*P=(top*4294967296+u2)*P+P:=by grind
 have h3:q*V<g*V:=by omega
 exact Int.lt_of_mul_lt_mul_right h3 (by omega)
theorem Zkr (hP:0<P) (hV:V=(v1*4294967296+v2)*P+V') (hV0:0≤V') (hV1:V'<P) (h2:0≤v2) (hv:0<v1) (hU:U=(top*4294967296+u2)*P+U') (hU0:0≤U') (hg0:0≤g) (hg1:g<4294967296) (hc:g*(v1*4294967296+v2)≤top*4294967296+u2):g*V-V≤U:=by
 have h3:=Int.mul_le_mul_of_nonneg_right hc (Int.le_of_lt hP)
 have e1:g*V=g*(v1*4294967296+v2)*P+g*V':=by rw[hV];grind
 have p1:g*V'≤g*P:=Int.mul_le_mul_of_nonneg_left (by omega) hg0
 have p2:g*P≤4294967296*P:=Int.mul_le_mul_of_nonneg_right (by omega) (by omega)
 have p3:(1:Int)*(4294967296*P)≤v1*(4294967296*P):=Int.mul_le_mul_of_nonneg_right (by omega) (by omega)
 have e2:V=v1*(4294967296*P)+v2*P+V':=by rw[hV];grind
 have p4:0≤v2*P:=Int.mul_nonneg h2 (by omega)
 omega
theorem Zqw (hr:g*v1+rest=top) (hc:g*v2≤rest*4294967296+u2):g*(v1*4294967296+v2)≤top*4294967296+u2:=by
 have:g*(v1*4294967296+v2)=g*v1*4294967296+g*v2:=by grind
 omega
theorem Zi3 (hr:g*v1+rest=top) (hrest:4294967296≤rest) (hg0:0≤g) (hg1:g<4294967296) (h2:0≤v2) (h3:v2<4294967296) (hu:0≤u2):g*(v1*4294967296+v2)≤top*4294967296+u2:=by
 have e1:g*(v1*4294967296+v2)=g*v1*4294967296+g*v2:=by grind
 have p1:g*v2≤4294967296*v2:=Int.mul_le_mul_of_nonneg_right (by omega) h2
 omega
end
end Dv

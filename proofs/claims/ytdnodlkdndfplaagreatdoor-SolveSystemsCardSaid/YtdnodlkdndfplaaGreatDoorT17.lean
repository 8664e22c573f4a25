/-
 slices.Clone; (large.Int).DivMod.
-/
import Derived.Test.YtdnodlkdndfplaaGreatDoorT16
set_option linter.constructorNameAsVariable false
set_option linter.unusedSimpArgs false
set_option linter.unusedVariables false
namespace Go.Proofs.YtdnodlkdndfplaaGreatDoor
open Go.Am Go.Tx Dv
set_option maxRecDepth 100000
theorem ZpZ (n:Nat):IS (n:Int)= .agg [.v .b false,Za5 (wOf n)]:=by
 show SV.agg [.v .b (decide ((n:Int)<0)),Za5 (wOf (n:Int).natAbs)]=_
 rw[decide_eq_false (by omega),Int.natAbs_natCast]
set_option maxHeartbeats 4000000 in
theorem ZoS (a:List Int) (hl:a.length≤10000000000):PureOK Tryz.prog Zan 165 [Za5 a] (fun V=>V=Za5 a):=by
 refine PureOK.as (Q:=fun V=>V=Za5 a∨(V= .nils∧a=[])) ?_ ?_
 rotate_left
 ·rintro V (h|⟨rfl,rfl⟩)
  ·exact⟨V,AsV.refl V,h⟩
  ·exact⟨_,AsV.nil _,rfl⟩
 refine Zac Zaa Tryz.func165 ?_
 refine And.intro (fun hx=> ?_) ?_
 ·refine And.intro (fun _=> ?_) (fun h=>nomatch h)
  exact .inr ⟨rfl,hx⟩
 ·refine And.intro (fun h=>nomatch h) (fun _=> ?_)
  refine And.intro (by show 0+0≤0;decide) ?_
  cases a with
  |nil=>
   refine And.intro (by show 0+0≤0;decide) ?_
   exact .inl rfl
  |cons x r=>
   refine And.intro (by show(0+(r.length+1))*4≤_;simp at hl;omega) ?_
   refine And.intro (by show 0+(0+(r.length+1))≤(x::r).length;simp) ?_
   refine .inl (congrArg Za5 ?_)
   show sub (sub [] 0 0++x::r) 0 (0+(r.length+1))=x::r
   simp[sub]
theorem ZCq (a b:Int) (hb:0<b) (h: ¬ (sg (decide (a<0)) ((a.natAbs % b.natAbs:Nat):Int)<0)):sg (decide (a<0)) ((a.natAbs/b.natAbs:Nat):Int)=a/b∧sg (decide (a<0)) ((a.natAbs % b.natAbs:Nat):Int)=a % b:=by
 obtain⟨n,rfl⟩: ∃n:Nat,b=n:=⟨b.toNat,by omega⟩
 rw[Int.natAbs_natCast]at h⊢
 by_cases ha:a<0
 ·obtain⟨m,rfl⟩: ∃m:Nat,a= -(m:Int):=⟨(-a).toNat,by omega⟩
  rw[decide_eq_true ha]at h⊢
  rw[Int.natAbs_neg,Int.natAbs_natCast]at h⊢
  simp only[sg]at h⊢
  have h0:m % n=0:=by omega
  have e:=Nat.div_add_mod m n
  rw[h0,Nat.add_zero]at e
  rw[h0]
  have em: -(m:Int)=(n:Int)* -((m/n:Nat):Int):=by rw[Int.mul_neg,←Int.natCast_mul,e]
  constructor
  ·rw[em,Int.mul_ediv_cancel_left _ (by omega)]
  ·rw[em,Int.mul_emod_right];rfl
 ·obtain⟨m,rfl⟩: ∃m:Nat,a=m:=⟨a.toNat,by omega⟩
  rw[decide_eq_false ha,Int.natAbs_natCast]
  exact⟨rfl,rfl⟩
theorem ZCm (a b:Int) (hb:0<b) (h:sg (decide (a<0)) ((a.natAbs % b.natAbs:Nat):Int)<0):sg (decide (a<0)) ((a.natAbs/b.natAbs:Nat):Int)-1=a/b∧sg (decide (a<0)) ((a.natAbs % b.natAbs:Nat):Int)+b=a % b:=by
 obtain⟨n,rfl⟩: ∃n:Nat,b=n:=⟨b.toNat,by omega⟩
 rw[Int.natAbs_natCast]at h⊢
 by_cases ha:a<0
 ·obtain⟨m,rfl⟩: ∃m:Nat,a= -(m:Int):=⟨(-a).toNat,by omega⟩
  rw[decide_eq_true ha]at h⊢
  rw[Int.natAbs_neg,Int.natAbs_natCast]at h⊢
  simp only[sg]at h⊢
  have h0:0<m % n:=by omega
  have h1:m % n<n:=Nat.mod_lt _ (by omega)
  have e:=Nat.div_add_mod m n
  have em: -(m:Int)=(-((m % n:Nat):Int)+n)+(n:Int)*(-((m/n:Nat):Int)-1):=by
   have:(m:Int)=(n:Int)*((m/n:Nat):Int)+((m % n:Nat):Int):=by rw[←Int.natCast_mul,←Int.natCast_add,e]
   rw[this];grind
  constructor
  ·rw[em,Int.add_mul_ediv_left _ _ (by omega),Int.ediv_eq_zero_of_lt (by omega) (by omega)];omega
  ·rw[em,Int.add_mul_emod_self_left,Int.emod_eq_of_lt (by omega) (by omega)]
 ·rw[decide_eq_false ha]at h
  simp only[sg]at h
  omega
theorem ZmZ (m:Bool) (x:Int):(sg m x).natAbs=x.natAbs:=by cases m<;>simp[sg]
def dmH (a b q r:Int):List SM:=[.cell [.v .b (decide (a<0)),Za5 (wOf a.natAbs)] true, .cell [.v .b (decide (b<0)),Za5 (wOf b.natAbs)] true, .cell [.v .b false, .nils] true, .cell [.v .b false, .nils] true, .cell [.v .b (decide (q<0)),Za5 (wOf q.natAbs)] true, .cell [.v .b (decide (r<0)),Za5 (wOf r.natAbs)] true]
set_option maxHeartbeats 8000000 in
theorem Zo8 (a b:Int) (hb:0<b) (hla:ln a≤700000000) (hlb:ln b≤700000000):PureOK Tryz.prog Zan 140 [IS a,IS b] (fun V=>V= .tup [IS (a/b),IS (a % b)]):=by
 have hla':(wOf a.natAbs).length≤700000000:=hla
 have hlb':(wOf b.natAbs).length≤700000000:=hlb
 refine Zac Zaa Tryz.func140 ?_
 refine And.intro rfl ?_
 refine And.intro rfl ?_
 refine(ZjY a.natAbs b.natAbs (by omega) (by omega) (by omega)).mono ?_
 rintro _ ⟨qw,rw_,rfl,q1,r1,q2,r2,q3,r3⟩
 refine And.intro rfl ?_
 refine(ZoS qw (by omega)).mono ?_
 rintro _ rfl
 refine(Zd0 _ qw q1 (by omega)).mono ?_
 rintro _ rfl
 refine And.intro rfl ?_
 refine(ZoS rw_ (by omega)).mono ?_
 rintro _ rfl
 refine(Zd0 _ rw_ r1 (by omega)).mono ?_
 rintro _ rfl
 obtain⟨Q,hQ⟩: ∃Q,sg (decide (a<0)) (wv qw)=Q:=⟨_,rfl⟩
 obtain⟨R,hR⟩: ∃R,sg (decide (a<0)) (wv rw_)=R:=⟨_,rfl⟩
 refine And.intro rfl ?_
 refine And.intro rfl ?_
 refine And.intro rfl ?_
 have hQR:=hQ
 have hRR:=hR
 rw[q3]at hQR
 rw[r3]at hRR
 refine And.intro (fun h=> ?_) (fun h=> ?_)
 ·have h':sg (decide (a<0)) (wv rw_)<0:=of_decide_eq_true h
  obtain⟨e1,e2⟩:=ZCm a b hb (by rw[r3]at h';exact h')
  refine ZlT (dmH a b (sg (decide (a<0)) (wv qw)) (sg (decide (a<0)) (wv rw_))) rfl ?_
  have lq:ln Q≤700000001:=by
   rw[←hQR]
   refine Nat.le_trans (Zi7 (b:=a) ?_) (by omega)
   have:=Nat.div_le_self a.natAbs b.natAbs
   rw[ZmZ,Int.natAbs_natCast];omega
  have lr:ln R≤700000001:=by
   rw[←hRR]
   refine Nat.le_trans (Zi7 (b:=a) ?_) (by omega)
   have:=Nat.mod_le a.natAbs b.natAbs
   rw[ZmZ,Int.natAbs_natCast];omega
  refine And.intro rfl ?_
  refine(ZA8 1 (by decide) (by decide)).mono ?_
  rintro _ rfl
  have l1:ln 1≤2:=ZkK (by decide)
  refine(ZBM (sg (decide (a<0)) (wv qw)) 1 (by rw[hQ];omega) (by omega)).mono ?_
  rintro _ rfl
  refine And.intro rfl ?_
  refine And.intro rfl ?_
  refine(Zvk (sg (decide (a<0)) (wv rw_)) b (by rw[hR];omega) (by omega)).mono ?_
  rintro _ rfl
  refine And.intro rfl ?_
  refine And.intro rfl ?_
  refine ZlT (dmH a b (sg (decide (a<0)) (wv qw)-1) (sg (decide (a<0)) (wv rw_)+b)) rfl ?_
  refine⟨rfl,rfl,rfl,rfl,rfl,rfl, ?_⟩
  show SV.tup [IS (sg (decide (a<0)) (wv qw)-1),IS (sg (decide (a<0)) (wv rw_)+b)]=_
  rw[q3,r3,e1,e2]
 ·have h': ¬sg (decide (a<0)) (wv rw_)<0:=of_decide_eq_false h
  obtain⟨e1,e2⟩:=ZCq a b hb (by rw[r3]at h';exact h')
  refine⟨rfl,rfl,rfl,rfl,rfl,rfl, ?_⟩
  show SV.tup [IS (sg (decide (a<0)) (wv qw)),IS (sg (decide (a<0)) (wv rw_))]=_
  rw[q3,r3,e1,e2]
end Go.Proofs.YtdnodlkdndfplaaGreatDoor
/-
 large.Gcd; strings.HasPrefix, TrimPrefix; strconv.ParseUint and (large.Int).Text as typed calls; large.Read.
-/
namespace Go.Proofs.YtdnodlkdndfplaaGreatDoor
open Go.Am Go.Tx Dv
set_option maxRecDepth 100000
theorem ZyN (n:Nat):PureOK Tryz.prog Zan 155 [.agg [.v .b false,Za5 (wOf n)]] (fun V=>V= .v (.i .i64) ((n:Int)).sign):=by
 rw[←ZpZ]
 exact Zxu n
def ZCe (t:Nat×Nat):List SM:=[.cell [.v .b false,Za5 (wOf t.1)] true, .cell [.v .b false,Za5 (wOf t.2)] true, .cell [.v .b false, .nils] true]
set_option maxHeartbeats 4000000 in
theorem ZzI (a b:Int) (hla:ln a≤700000000) (hlb:ln b≤700000000):PureOK Tryz.prog Zan 139 [IS a,IS b] (fun V=>V=IS (Int.gcd a b:Int)):=by
 refine Zac Zaa Tryz.func139 ?_
 refine And.intro rfl ?_
 refine And.intro rfl ?_
 refine Zat Zaa rfl (fun(_:Nat×Nat)=> [(2, .ptr 0 0 0),(3, .ptr 1 0 0),(4, .ptr 2 0 0)]) ZCe
  (fun t=>(wOf t.1).length≤700000000∧(wOf t.2).length≤700000000∧Nat.gcd t.1 t.2=Int.gcd a b) (fun t=>t.2) ?_ (a.natAbs,b.natAbs) ⟨hla,hlb,rfl⟩ ?_
 ·rintro⟨A,B⟩ ⟨h1,h2,h3⟩
  simp only at h1 h2 h3
  refine And.intro rfl ?_
  refine(ZyN B).mono ?_
  rintro _ rfl
  refine And.intro (fun h=> ?_) (fun h=> ?_)
  ·have hB:0<B:=by
    have h':(!decide ((B:Int).sign=0))=true:=h
    rcases Nat.eq_zero_or_pos B with h0|h0
    ·subst h0;simp at h'
    ·exact h0
   refine And.intro rfl ?_
   refine And.intro rfl ?_
   refine(ZjY A B hB (by omega) (by omega)).mono ?_
   rintro _ ⟨q,r,rfl,q1,r1,q2,r2,q3,r3⟩
   refine And.intro rfl ?_
   refine(ZoS r (by omega)).mono ?_
   rintro _ rfl
   refine(Zd0 false r r1 (by omega)).mono ?_
   rintro _ rfl
   refine And.intro rfl ?_
   refine And.intro rfl ?_
   have er:sg false (wv r)=((A % B:Nat):Int):=r3
   have hm:A % B<B:=Nat.mod_lt _ hB
   refine⟨(B,A % B),⟨h2,Nat.le_trans (Zbg (Nat.le_of_lt hm)) h2, ?_⟩,hm, ?_⟩
   ·show Nat.gcd B (A % B)=_
    rw[←h3,Nat.gcd_comm A B,Nat.gcd_rec B A,Nat.gcd_comm]
   ·have e1:false=decide (sg false (wv r)<0):=by rw[er];exact(decide_eq_false (by omega)).symm
    have e2:wOf (A % B)=wOf (sg false (wv r)).natAbs:=by rw[er,Int.natAbs_natCast]
    refine Zal rfl rfl ?_ ?_
    ·exact⟨⟨rfl,rfl⟩,⟨rfl,rfl⟩,⟨rfl,rfl⟩,trivial⟩
    ·exact⟨⟨⟨rfl,rfl,trivial⟩,fun _=>rfl⟩,⟨⟨e1,e2,trivial⟩,fun _=>rfl⟩,⟨⟨rfl,trivial,trivial⟩,fun _=>rfl⟩,trivial⟩
  ·have hB:B=0:=by
    have h':(!decide ((B:Int).sign=0))=false:=h
    simpa using h'
   subst hB
   refine⟨rfl,rfl,rfl, ?_⟩
   rw[Nat.gcd_zero_right]at h3
   show SV.agg [.v .b false,Za5 (wOf A)]=_
   rw[←h3,ZpZ]
 ·refine Zal rfl rfl ?_ ?_
  ·exact⟨⟨rfl,rfl⟩,⟨rfl,rfl⟩,⟨rfl,rfl⟩,trivial⟩
  ·exact⟨⟨⟨rfl,rfl,trivial⟩,fun _=>rfl⟩,⟨⟨rfl,rfl,trivial⟩,fun _=>rfl⟩,⟨⟨rfl,trivial,trivial⟩,fun _=>rfl⟩,trivial⟩
def ZnB (s p:List UInt8):Bool:=decide ((p.length:Int)≤(s.length:Int))&&(s.take p.length==p)
set_option maxHeartbeats 4000000 in
theorem ZhG (s p:List UInt8):PureOK Tryz.prog Zan 167 [.v .s s, .v .s p] (fun V=>V= .v .b (ZnB s p)):=by
 refine Zac Zaa Tryz.func167 ?_
 refine ZaA (ZaI rfl ?_)
 refine Zad ?_
 refine Za0 ?_
 refine ZaA (ZaI rfl ?_)
 iterate 6 refine Zad ?_
 cases hc:decide ((p.length:Int)≤(s.length:Int))with
 |true=>
  have hle:(p.length:Int)≤(s.length:Int):=of_decide_eq_true hc
  iterate 3 refine Zae rfl ?_
  refine ZiA rfl rfl rfl rfl (fun _=>rfl) ⟨Int.natCast_nonneg _,hle⟩ rfl rfl ?_
  iterate 2 refine Zae rfl ?_
  refine ZaY rfl ?_
  refine Zad ?_
  refine Za0 ?_
  show SV.v .b (List.drop 0 (s.take ((p.length:Int).toNat))==p)= .v .b (ZnB s p)
  rw[ZnB,hc,List.drop_zero,Int.toNat_natCast,Bool.true_and]
 |false=>
  iterate 6 refine ZaL rfl ?_
  refine ZaW rfl ?_
  refine Zad ?_
  refine Za0 ?_
  show SV.v .b false= .v .b (ZnB s p)
  rw[ZnB,hc,Bool.false_and]
set_option maxHeartbeats 4000000 in
theorem Zod (s p:List UInt8):PureOK Tryz.prog Zan 149 [.v .s s, .v .s p] (fun V=>V= .v .b (ZnB s p)):=by
 refine Zac Zaa Tryz.func149 ?_
 refine(ZhG s p).mono ?_
 rintro _ rfl
 rfl
set_option maxHeartbeats 4000000 in
theorem ZkD (s p:List UInt8):PureOK Tryz.prog Zan 145 [.v .s s, .v .s p] (fun V=>V= .v .s (match ZnB s p with|true=>s.drop p.length|false=>s)):=by
 refine Zac Zaa Tryz.func145 ?_
 refine(ZhG s p).mono ?_
 rintro _ rfl
 refine And.intro (fun h=> ?_) (fun h=> ?_)
 ·have hle:(p.length:Int)≤(s.length:Int):=by
   have h':=h
   simp only[ZnB,Bool.and_eq_true,decide_eq_true_eq]at h'
   exact h'.1
  refine And.intro ⟨Int.natCast_nonneg _,hle⟩ ?_
  have e:(s.take s.length).drop ((p.length:Int).toNat)=s.drop p.length:=by rw[List.take_length,Int.toNat_natCast]
  rw[h]
  exact congrArg (SV.v .s) e
 ·rw[h]
  rfl
set_option maxHeartbeats 4000000 in
theorem Zho (s p:List UInt8):PureOK Tryz.prog Zan 105 [.v .s s, .v .s p] (fun V=>V= .v .s (match ZnB s p with|true=>s.drop p.length|false=>s)):=by
 refine Zac Zaa Tryz.func105 ?_
 refine(ZkD s p).mono ?_
 rintro _ rfl
 rfl
theorem Zye {s:List UInt8} (h:Dg s):Zzk s=true:=by
 refine List.all_eq_true.2 fun c hc=> ?_
 obtain⟨h1,h2⟩:=h c hc
 rw[Bool.and_eq_true]
 exact⟨Nat.ble_eq_true_of_le h1,Nat.ble_eq_true_of_le h2⟩
theorem Zoy (x:List UInt8) (hd:Dg x) (h1:1≤x.length) (h9:x.length≤9):PureOK Tryz.prog Zan 150 [.v .s x, .v (.i .i64) 10, .v (.i .i64) 32] (fun V=>V= .tup [.v (.i .u64) (dec x:Nat), .nili]):=by
 refine⟨fun qs hr=> ?_⟩
 simp only[RL,RV,RR,List.cons.injEq,and_true]at hr
 obtain⟨_,_,rfl,rfl,_,_,rfl,rfl,_,_,rfl,rfl,rfl⟩:=hr
 refine⟨.tup [.int .u64 (dec x:Nat), .nili],_, ?_, ?_,rfl⟩
 ·show(parseG [.str ⟨x.toArray⟩, .int .i64 10, .int .i64 32]).bind (fun v=>exp ZaB [] v)=_
  have b0:=Zye hd
  have b1:Nat.ble 1 x.length=true:=Nat.ble_eq_true_of_le h1
  have b9:Nat.ble x.length 9=true:=Nat.ble_eq_true_of_le h9
  have e:parseG [.str ⟨x.toArray⟩, .int .i64 10, .int .i64 32]=some (.tup [.int .u64 (dec x:Nat), .nili]):=by
   simp only[parseG,b0,b1,b9,decide_true,Bool.and_self]
  rw[e]
  rfl
 ·simp only[RV,RL,RR]
  exact⟨_,rfl,_,_,rfl,rfl,_,_,rfl,rfl,rfl⟩
theorem Zjl: ∀ {a:List Int} {es:List (List PV)},Wd a→All2 (RR (.i .u32)) a es→ZeK es=some a
 | [],[],_,_=>rfl
 |x::a,c::es,hw,h=>by
  obtain⟨h1,h2⟩:=h
  simp only[RR]at h1
  subst h1
  have hx:=hw x List.mem_cons_self
  have:(decide (0≤x)&&decide (x<4294967296))=true:=by rw[decide_eq_true hx.1,decide_eq_true hx.2];rfl
  simp only[ZeK,this,Zjl (fun y hy=>hw y (List.mem_cons_of_mem _ hy)) h2,Option.map_some]
theorem Zqe (v:Int):PureOK Tryz.prog Zan 126 [IS v] (fun V=>V= .tup [.v .s (Zda (decide (v<0)) (wOf v.natAbs)), .v .b (ZcB (wOf v.natAbs))]):=by
 refine⟨fun qs hr=> ?_⟩
 obtain⟨a,ha⟩: ∃a,wOf v.natAbs=a:=⟨_,rfl⟩
 have hw:Wd a:=ha▸Zde _
 change RL [] [.agg [.v .b (decide (v<0)),Za5 (wOf v.natAbs)]] qs at hr
 rw[ha]at hr⊢
 simp only[RL,RV,RR,List.cons.injEq,and_true]at hr
 obtain⟨_,_,rfl,⟨_,rfl,_,_,rfl,rfl,_,_,rfl,hq,rfl⟩,rfl⟩:=hr
 refine⟨.tup [.str ⟨(Zda (decide (v<0)) a).toArray⟩, .bool (ZcB a)],_, ?_, ?_,rfl⟩
 ·show(textG _).bind (fun v=>exp ZaB [] v)=_
  rcases hq with⟨rfl,rfl⟩|⟨es,rfl,hes⟩
  ·rfl
  ·simp only[textG,Zjl hw hes,Option.map_some]
   rfl
 ·simp only[RV,RL,RR]
  exact⟨_,rfl,_,_,rfl,rfl,_,_,rfl,rfl,rfl⟩
end Go.Proofs.YtdnodlkdndfplaaGreatDoor
/-
 Whole numbers as fractions; the negative of a fraction.
-/
namespace Go.Proofs.YtdnodlkdndfplaaGreatDoor
open Go.Am Go.Tx Dv Go.Lib
set_option maxRecDepth 100000
abbrev QS (n d:Int):SV:= .agg [.v .b (decide (n<0)),Za5 (wOf n.natAbs), .v .b (decide (d<0)),Za5 (wOf d.natAbs)]
theorem ZAJ (n d:Int) (hl:ln n≤1000000000):PureOK Tryz.prog Zan 121 [QS n d] (fun V=>V=QS (-n) d):=by
 refine Zac Zaa Tryz.func121 ?_
 refine And.intro rfl ?_
 refine(Zwa n hl).mono ?_
 rintro _ rfl
 refine And.intro rfl ?_
 refine And.intro rfl ?_
 first|rfl|exact⟨rfl,rfl⟩|exact⟨rfl,rfl,rfl⟩|exact⟨rfl,rfl,rfl,rfl⟩
end Go.Proofs.YtdnodlkdndfplaaGreatDoor
/-
 The package nat in plain Lean: what its functions answer on texts.
-/
namespace Dv
open Go Go.Am Go.Lib
def cnB (s:List UInt8):Bool:=Zzk s&&(!s.isEmpty&& !(decide (1<s.length)&&s.head? ==some 48))
def Zay (s:List UInt8):Int:=match cnB s with
 |false=>5
 |true=>match Nat.ble s.length 2000 with
  |true=>0
  |false=>2
theorem ZkU {s:List UInt8}:Zzk s=true↔Dg s:=by
 unfold Zzk
 rw[List.all_eq_true]
 refine forall_congr' fun c=>forall_congr' fun _=> ?_
 rw[Bool.and_eq_true,Nat.ble_eq,Nat.ble_eq]
theorem Zlw {s:List UInt8}:cnB s=true↔Cn s:=by
 simp only[cnB,Bool.and_eq_true,ZkU,Bool.not_eq_true',Bool.and_eq_false_iff,decide_eq_false_iff_not,beq_eq_false_iff_ne,List.isEmpty_eq_false_iff,Cn,ne_eq]
 constructor
 ·rintro⟨h1,h2,h3⟩
  exact⟨h2,h1,fun h=>h3.resolve_left (by omega)⟩
 ·rintro⟨h1,h2,h3⟩
  refine⟨h2,h1, ?_⟩
  by_cases h:1<s.length
  ·exact .inr (h3 h)
  ·exact .inl h
theorem Za6 {s:List UInt8} (h:Zay s=0):Cn s∧s.length≤2000:=by
 unfold Zay at h
 split at h
 ·cases h
 ·rename_i hc
  split at h
  ·rename_i hl
   exact⟨Zlw.1 hc,Nat.le_of_ble_eq_true hl⟩
  ·cases h
theorem ZuD {s:List UInt8} (h:Cn s) (hl:s.length≤2000):Zay s=0:=by
 simp only[Zay,Zlw.2 h,Nat.ble_eq_true_of_le hl]
def ZuK (n:Nat):List UInt8×Int:=match Nat.ble (decDigits n).length 2000 with
 |true=>(decDigits n,0)
 |false=>([],2)
theorem Zrd {n:Nat} (h:n<10^2000):ZuK n=(decDigits n,0):=by
 have:Nat.ble (decDigits n).length 2000=true:=Nat.ble_eq_true_of_le ((Zbs (k:=2000) (by decide)).2 h)
 simp only[ZuK,this]
theorem Ztu (n:Nat):ZcB (wOf n)=Nat.ble (decDigits n).length 2000∧(Nat.ble (decDigits n).length 2000=true→ ∀m,Zda m (wOf n)=(match decide (n=0),m with|false,true=> [45]|_,_=> [])++decDigits n):=by
 by_cases h0:n=0
 ·subst h0
  rw[Zeb,decDigits_one (by decide)]
  refine⟨rfl,fun _ m=> ?_⟩
  cases m<;>rfl
 ·have hne:(wOf n).isEmpty=false:=by
   rw[List.isEmpty_eq_false_iff,ne_eq,Zeo];exact h0
  have hd0:decide (n=0)=false:=decide_eq_false h0
  by_cases hl:(wOf n).length≤210
  ·have hb:Nat.ble (wOf n).length 210=true:=Nat.ble_eq_true_of_le hl
   have hlt:n<10^2100:=Nat.lt_trans (ZcA.1 hl) (by decide+kernel)
   have hv:(wv (wOf n)).toNat=n:=by rw[Zb6];omega
   have hdig:Zvb 2100 n=decDigits n:=Zok 2100 n (by decide) hlt
   refine⟨by simp only[ZcB,hne,hb,hv,hdig],fun _ m=> ?_⟩
   simp only[Zda,hne,hb,hv,hdig,hd0]
   cases m<;>rfl
  ·have hb:Nat.ble (wOf n).length 210=false:=by
    cases hb:Nat.ble (wOf n).length 210 with
    |false=>rfl
    |true=>exact absurd (Nat.le_of_ble_eq_true hb) hl
   have hge:10^2000≤n:=by
    rcases Nat.lt_or_ge n (10^2000)with h|h
    ·exact absurd (ZcA.2 (Nat.lt_trans h (by decide+kernel))) hl
    ·exact h
   have hbl:Nat.ble (decDigits n).length 2000=false:=by
    cases hbl:Nat.ble (decDigits n).length 2000 with
    |false=>rfl
    |true=>
     have:=(Zbs (by decide)).1 (Nat.le_of_ble_eq_true hbl)
     omega
   exact⟨by simp only[ZcB,hne,hb,hbl],fun h=>by rw[hbl]at h;cases h⟩
def ZjF (a b:List UInt8):Int:=match decide (Zay a=0)with
 |true=>Zay b
 |false=>Zay a
theorem ZsE {a b:List UInt8} (h:ZjF a b=0):Zay a=0∧Zay b=0:=by
 unfold ZjF at h
 split at h
 ·rename_i h1;exact⟨of_decide_eq_true h1,h⟩
 ·rename_i h1;exact absurd h (of_decide_eq_false h1)
end Dv

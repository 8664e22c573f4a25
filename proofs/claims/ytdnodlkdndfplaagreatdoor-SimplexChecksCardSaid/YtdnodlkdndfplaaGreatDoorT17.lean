/-
 slices.Clone; (large.Int).DivMod.
-/
import Derived.Test.YtdnodlkdndfplaaGreatDoorT16
import Derived.Test.YtdnodlkdndfplaaGreatDoorT9
set_option linter.constructorNameAsVariable false
set_option linter.unusedSimpArgs false
set_option linter.unusedVariables false
namespace Go.Proofs.YtdnodlkdndfplaaGreatDoor
open Go.Am Go.Tx Dv
set_option maxRecDepth 100000
theorem ZnV (n:Nat):IS (n:Int)= .agg [.v .b false,ZaX (wOf n)]:=by
 show SV.agg [.v .b (decide ((n:Int)<0)),ZaX (wOf (n:Int).natAbs)]=_
 rw[decide_eq_false (by omega),Int.natAbs_natCast]
set_option maxHeartbeats 4000000 in
theorem ZrN (a:List Int) (hl:a.length≤10000000):PureOK Tryz.prog Zau 165 [ZaX a] (fun V=>V=ZaX a):=by
 refine PureOK.as (Q:=fun V=>V=ZaX a∨(V= .nils∧a=[])) ?_ ?_
 rotate_left
 ·rintro V (h|⟨rfl,rfl⟩)
  ·exact⟨V,AsV.refl V,h⟩
  ·exact⟨_,AsV.nil _,rfl⟩
 refine Zaj Zao Tryz.func165 ?_
 refine And.intro (fun hx=> ?_) ?_
 ·refine And.intro (fun _=> ?_) (fun h=>nomatch h)
  exact .inr ⟨rfl,hx⟩
 ·refine And.intro (fun h=>nomatch h) (fun _=> ?_)
  refine And.intro (by show 0+0≤0;decide) ?_
  cases a with
  |nil=>
   refine And.intro (by show 0+0≤0;decide) ?_
   exact .inl rfl
  |cons x r=>
   refine And.intro (by show(0+(r.length+1))*4≤_;simp at hl;omega) ?_
   refine And.intro (by show 0+(0+(r.length+1))≤(x::r).length;simp) ?_
   refine .inl (congrArg ZaX ?_)
   show sub (sub [] 0 0++x::r) 0 (0+(r.length+1))=x::r
   simp[sub]
theorem ZsF (m:Bool) (x:Int):(sg m x).natAbs=x.natAbs:=by cases m<;>simp[sg]
end Go.Proofs.YtdnodlkdndfplaaGreatDoor
/-
 large.Gcd; strings.HasPrefix, TrimPrefix; strconv.ParseUint and (large.Int).Text as typed calls; large.Read.
-/
namespace Go.Proofs.YtdnodlkdndfplaaGreatDoor
open Go.Am Go.Tx Dv
set_option maxRecDepth 100000
theorem Zsm (n:Nat):PureOK Tryz.prog Zau 155 [.agg [.v .b false,ZaX (wOf n)]] (fun V=>V= .v (.i .i64) ((n:Int)).sign):=by
 rw[←ZnV]
 exact ZsX n
def Zux (t:Nat×Nat):List SM:=[.cell [.v .b false,ZaX (wOf t.1)] true, .cell [.v .b false,ZaX (wOf t.2)] true, .cell [.v .b false, .nils] true]
set_option maxHeartbeats 4000000 in
theorem Zub (a b:Int) (hla:ln a≤700000) (hlb:ln b≤700000):PureOK Tryz.prog Zau 139 [IS a,IS b] (fun V=>V=IS (Int.gcd a b:Int)):=by
 refine Zaj Zao Tryz.func139 ?_
 refine And.intro rfl ?_
 refine And.intro rfl ?_
 refine ZaC Zao rfl (fun(_:Nat×Nat)=> [(2, .ptr 0 0 0),(3, .ptr 1 0 0),(4, .ptr 2 0 0)]) Zux
  (fun t=>(wOf t.1).length≤700000∧(wOf t.2).length≤700000∧Nat.gcd t.1 t.2=Int.gcd a b) (fun t=>t.2) ?_ (a.natAbs,b.natAbs) ⟨hla,hlb,rfl⟩ ?_
 ·rintro⟨A,B⟩ ⟨h1,h2,h3⟩
  simp only at h1 h2 h3
  refine And.intro rfl ?_
  refine(Zsm B).mono ?_
  rintro _ rfl
  refine And.intro (fun h=> ?_) (fun h=> ?_)
  ·have hB:0<B:=by
    have h':(!decide ((B:Int).sign=0))=true:=h
    rcases Nat.eq_zero_or_pos B with h0|h0
    ·subst h0;simp at h'
    ·exact h0
   refine And.intro rfl ?_
   refine And.intro rfl ?_
   refine(ZmZ A B hB (by omega) (by omega)).mono ?_
   rintro _ ⟨q,r,rfl,q1,r1,q2,r2,q3,r3⟩
   refine And.intro rfl ?_
   refine(ZrN r (by omega)).mono ?_
   rintro _ rfl
   refine(Zfq false r r1 (by omega)).mono ?_
   rintro _ rfl
   refine And.intro rfl ?_
   refine And.intro rfl ?_
   have er:sg false (wv r)=((A % B:Nat):Int):=r3
   have hm:A % B<B:=Nat.mod_lt _ hB
   refine⟨(B,A % B),⟨h2,Nat.le_trans (Za6 (Nat.le_of_lt hm)) h2, ?_⟩,hm, ?_⟩
   ·show Nat.gcd B (A % B)=_
    rw[←h3,Nat.gcd_comm A B,Nat.gcd_rec B A,Nat.gcd_comm]
   ·have e1:false=decide (sg false (wv r)<0):=by rw[er];exact(decide_eq_false (by omega)).symm
    have e2:wOf (A % B)=wOf (sg false (wv r)).natAbs:=by rw[er,Int.natAbs_natCast]
    refine Zaq rfl rfl ?_ ?_
    ·exact⟨⟨rfl,rfl⟩,⟨rfl,rfl⟩,⟨rfl,rfl⟩,trivial⟩
    ·exact⟨⟨⟨rfl,rfl,trivial⟩,fun _=>rfl⟩,⟨⟨e1,e2,trivial⟩,fun _=>rfl⟩,⟨⟨rfl,trivial,trivial⟩,fun _=>rfl⟩,trivial⟩
  ·have hB:B=0:=by
    have h':(!decide ((B:Int).sign=0))=false:=h
    simpa using h'
   subst hB
   refine⟨rfl,rfl,rfl, ?_⟩
   rw[Nat.gcd_zero_right]at h3
   show SV.agg [.v .b false,ZaX (wOf A)]=_
   rw[←h3,ZnV]
 ·refine Zaq rfl rfl ?_ ?_
  ·exact⟨⟨rfl,rfl⟩,⟨rfl,rfl⟩,⟨rfl,rfl⟩,trivial⟩
  ·exact⟨⟨⟨rfl,rfl,trivial⟩,fun _=>rfl⟩,⟨⟨rfl,rfl,trivial⟩,fun _=>rfl⟩,⟨⟨rfl,trivial,trivial⟩,fun _=>rfl⟩,trivial⟩
def Zki (s p:List UInt8):Bool:=decide ((p.length:Int)≤(s.length:Int))&&(s.take p.length==p)
set_option maxHeartbeats 4000000 in
theorem ZfN (s p:List UInt8):PureOK Tryz.prog Zau 167 [.v .s s, .v .s p] (fun V=>V= .v .b (Zki s p)):=by
 refine Zaj Zao Tryz.func167 ?_
 refine Zab (Zaa rfl ?_)
 refine Zad rfl (fun _=>rfl) rfl rfl ?_
 refine Zag ?_
 refine Zab (Zaa rfl ?_)
 iterate 6 refine Zad rfl (fun _=>rfl) rfl rfl ?_
 cases hc:decide ((p.length:Int)≤(s.length:Int))with
 |true=>
  have hle:(p.length:Int)≤(s.length:Int):=of_decide_eq_true hc
  iterate 3 refine Zaf rfl rfl rfl rfl (fun _=>rfl) rfl rfl ?_
  refine ZaR rfl rfl rfl rfl (fun _=>rfl) ⟨Int.natCast_nonneg _,hle⟩ rfl rfl ?_
  iterate 2 refine Zaf rfl rfl rfl rfl (fun _=>rfl) rfl rfl ?_
  refine ZaF rfl rfl rfl rfl rfl rfl rfl ?_
  refine Zad rfl (fun _=>rfl) rfl rfl ?_
  refine Zag ?_
  show SV.v .b (List.drop 0 (s.take ((p.length:Int).toNat))==p)= .v .b (Zki s p)
  rw[Zki,hc,List.drop_zero,Int.toNat_natCast,Bool.true_and]
 |false=>
  iterate 6 refine Zae rfl rfl rfl rfl rfl rfl ?_
  refine Zax rfl rfl rfl rfl rfl rfl rfl ?_
  refine Zad rfl (fun _=>rfl) rfl rfl ?_
  refine Zag ?_
  show SV.v .b false= .v .b (Zki s p)
  rw[Zki,hc,Bool.false_and]
set_option maxHeartbeats 4000000 in
theorem Zk6 (s p:List UInt8):PureOK Tryz.prog Zau 149 [.v .s s, .v .s p] (fun V=>V= .v .b (Zki s p)):=by
 refine Zaj Zao Tryz.func149 ?_
 refine(ZfN s p).mono ?_
 rintro _ rfl
 rfl
set_option maxHeartbeats 4000000 in
theorem Zi6 (s p:List UInt8):PureOK Tryz.prog Zau 145 [.v .s s, .v .s p] (fun V=>V= .v .s (match Zki s p with|true=>s.drop p.length|false=>s)):=by
 refine Zaj Zao Tryz.func145 ?_
 refine(ZfN s p).mono ?_
 rintro _ rfl
 refine And.intro (fun h=> ?_) (fun h=> ?_)
 ·have hle:(p.length:Int)≤(s.length:Int):=by
   have h':=h
   simp only[Zki,Bool.and_eq_true,decide_eq_true_eq]at h'
   exact h'.1
  refine And.intro ⟨Int.natCast_nonneg _,hle⟩ ?_
  have e:(s.take s.length).drop ((p.length:Int).toNat)=s.drop p.length:=by rw[List.take_length,Int.toNat_natCast]
  rw[h]
  exact congrArg (SV.v .s) e
 ·rw[h]
  rfl
set_option maxHeartbeats 4000000 in
theorem Zf1 (s p:List UInt8):PureOK Tryz.prog Zau 105 [.v .s s, .v .s p] (fun V=>V= .v .s (match Zki s p with|true=>s.drop p.length|false=>s)):=by
 refine Zaj Zao Tryz.func105 ?_
 refine(Zi6 s p).mono ?_
 rintro _ rfl
 rfl
theorem Zsa {s:List UInt8} (h:Dg s):Zsu s=true:=by
 refine List.all_eq_true.2 fun c hc=> ?_
 obtain⟨h1,h2⟩:=h c hc
 rw[Bool.and_eq_true]
 exact⟨Nat.ble_eq_true_of_le h1,Nat.ble_eq_true_of_le h2⟩
theorem ZkD (x:List UInt8) (hd:Dg x) (h1:1≤x.length) (h9:x.length≤9):PureOK Tryz.prog Zau 150 [.v .s x, .v (.i .i64) 10, .v (.i .i64) 32] (fun V=>V= .tup [.v (.i .u64) (dec x:Nat), .nili]):=by
 refine⟨fun qs hr=> ?_⟩
 simp only[RL,RV,RR,List.cons.injEq,and_true]at hr
 obtain⟨_,_,rfl,rfl,_,_,rfl,rfl,_,_,rfl,rfl,rfl⟩:=hr
 refine⟨.tup [.int .u64 (dec x:Nat), .nili],_, ?_, ?_,rfl⟩
 ·show(parseG [.str ⟨x.toArray⟩, .int .i64 10, .int .i64 32]).bind (fun v=>exp Zav [] v)=_
  have b0:=Zsa hd
  have b1:Nat.ble 1 x.length=true:=Nat.ble_eq_true_of_le h1
  have b9:Nat.ble x.length 9=true:=Nat.ble_eq_true_of_le h9
  have e:parseG [.str ⟨x.toArray⟩, .int .i64 10, .int .i64 32]=some (.tup [.int .u64 (dec x:Nat), .nili]):=by
   simp only[parseG,b0,b1,b9,decide_true,Bool.and_self]
  rw[e]
  rfl
 ·simp only[RV,RL,RR]
  exact⟨_,rfl,_,_,rfl,rfl,_,_,rfl,rfl,rfl⟩
theorem ZgJ: ∀ {a:List Int} {es:List (List PV)},Wd a→All2 (RR (.i .u32)) a es→Zdq es=some a
 | [],[],_,_=>rfl
 |x::a,c::es,hw,h=>by
  obtain⟨h1,h2⟩:=h
  simp only[RR]at h1
  subst h1
  have hx:=hw x List.mem_cons_self
  have:(decide (0≤x)&&decide (x<4294967296))=true:=by rw[decide_eq_true hx.1,decide_eq_true hx.2];rfl
  simp only[Zdq,this,ZgJ (fun y hy=>hw y (List.mem_cons_of_mem _ hy)) h2,Option.map_some]
theorem Ztm (v:Int):PureOK Tryz.prog Zau 126 [IS v] (fun V=>V= .tup [.v .s (ZdT (decide (v<0)) (wOf v.natAbs)), .v .b (ZcX (wOf v.natAbs))]):=by
 refine⟨fun qs hr=> ?_⟩
 obtain⟨a,ha⟩: ∃a,wOf v.natAbs=a:=⟨_,rfl⟩
 have hw:Wd a:=ha▸ZcN _
 change RL [] [.agg [.v .b (decide (v<0)),ZaX (wOf v.natAbs)]] qs at hr
 rw[ha]at hr⊢
 simp only[RL,RV,RR,List.cons.injEq,and_true]at hr
 obtain⟨_,_,rfl,⟨_,rfl,_,_,rfl,rfl,_,_,rfl,hq,rfl⟩,rfl⟩:=hr
 refine⟨.tup [.str ⟨(ZdT (decide (v<0)) a).toArray⟩, .bool (ZcX a)],_, ?_, ?_,rfl⟩
 ·show(textG _).bind (fun v=>exp Zav [] v)=_
  rcases hq with⟨rfl,rfl⟩|⟨es,rfl,hes⟩
  ·rfl
  ·simp only[textG,ZgJ hw hes,Option.map_some]
   rfl
 ·simp only[RV,RL,RR]
  exact⟨_,rfl,_,_,rfl,rfl,_,_,rfl,rfl,rfl⟩
end Go.Proofs.YtdnodlkdndfplaaGreatDoor

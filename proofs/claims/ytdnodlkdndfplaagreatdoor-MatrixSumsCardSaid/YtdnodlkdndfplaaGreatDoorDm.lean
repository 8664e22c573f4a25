/-
 Vectors and matrices as texts, in plain Lean.
-/
import Derived.Test.YtdnodlkdndfplaaGreatDoorQA
import Derived.Test.YtdnodlkdndfplaaGreatDoorQ9
set_option linter.constructorNameAsVariable false
set_option linter.unusedSimpArgs false
set_option linter.unusedVariables false
namespace Dv
open Go Go.Lib
def Zhe (v:List (List UInt8)):Int:=match decide ((40:Int)<(v.length:Int))with
 |true=>2
 |false=>ZeF v
def Zoz (w:Int):List (List (List UInt8))→Int
 | []=>0
 |r::l=>match decide ((r.length:Int)=w)with
  |false=>3
  |true=>match decide (Zhe r=0)with
   |true=>Zoz w l
   |false=>Zhe r
def wid (m:List (List (List UInt8))):Nat:=match m with
 | []=>0
 |r::_=>r.length
def ZcG (m:List (List (List UInt8))):Int:=match decide ((40:Int)<(m.length:Int))with
 |true=>2
 |false=>Zoz (wid m:Nat) m
def ZfR (a b:Int):Int:=match decide (a=0)with
 |true=>b
 |false=>a
def Zra:List Int→Int
 | []=>0
 |x::r=>match decide (x=0)with
  |true=>Zra r
  |false=>x
theorem Znx (a b:Int):Zra [a,b]=ZfR a b:=by
 simp only[Zra,ZfR]
 cases decide (a=0)with
 |true=>
  simp only
  cases hb:decide (b=0)with
  |true=>simp only;exact(of_decide_eq_true hb).symm
  |false=>rfl
 |false=>rfl
theorem Zlz {a b:Int} (h:ZfR a b=0):a=0∧b=0:=by
 unfold ZfR at h
 cases ha:decide (a=0)with
 |true=>rw[ha]at h;exact⟨of_decide_eq_true ha,h⟩
 |false=>rw[ha]at h;exact absurd h (of_decide_eq_false ha)
theorem Zq0 {v:List (List UInt8)} (h:Zhe v=0):v.length≤40∧ZeF v=0:=by
 unfold Zhe at h
 cases hv:decide ((40:Int)<(v.length:Int))with
 |true=>rw[hv]at h;cases h
 |false=>rw[hv]at h;exact⟨by have:=of_decide_eq_false hv;omega,h⟩
def Zf9 (n:Int):List (List UInt8)→Bool
 | []=>false
 |s::r=>match decide (n<(s.length:Int))with
  |true=>true
  |false=>Zf9 n r
def Zif (n:Int):List (List (List UInt8))→Bool
 | []=>false
 |v::r=>match decide (n<(v.length:Int))||Zf9 12 v with
  |true=>true
  |false=>Zif n r
def ZdM (n:Int):List (List (List (List UInt8)))→Bool
 | []=>false
 |x::r=>match decide (n<(x.length:Int))||Zif n x with
  |true=>true
  |false=>ZdM n r
theorem ZlA {n:Int}: ∀ {l:List (List UInt8)},Zf9 n l=false→ ∀a∈l,(a.length:Int)≤n
 | [],_,_,h=>absurd h List.not_mem_nil
 |s::r,h,a,ha=>by
  rw[Zf9]at h
  cases h1:decide (n<(s.length:Int))with
  |true=>rw[h1]at h;cases h
  |false=>
   rw[h1]at h
   rcases List.mem_cons.1 ha with rfl|ha
   ·have:=of_decide_eq_false h1;omega
   ·exact ZlA h a ha
theorem Ze9 {n:Int}: ∀ {l:List (List (List UInt8))},Zif n l=false→ ∀v∈l,(v.length:Int)≤n∧ ∀a∈v,(a.length:Int)≤12
 | [],_,_,h=>absurd h List.not_mem_nil
 |s::r,h,v,hv=>by
  rw[Zif]at h
  cases h1:decide (n<(s.length:Int))||Zf9 12 s with
  |true=>rw[h1]at h;cases h
  |false=>
   rw[h1]at h
   rw[Bool.or_eq_false_iff]at h1
   rcases List.mem_cons.1 hv with rfl|hv
   ·exact⟨by have:=of_decide_eq_false h1.1;omega,ZlA h1.2⟩
   ·exact Ze9 h v hv
theorem Ze4 {n:Int}: ∀ {l:List (List (List (List UInt8)))},ZdM n l=false→ ∀x∈l,(x.length:Int)≤n∧Zif n x=false
 | [],_,_,h=>absurd h List.not_mem_nil
 |s::r,h,v,hv=>by
  rw[ZdM]at h
  cases h1:decide (n<(s.length:Int))||Zif n s with
  |true=>rw[h1]at h;cases h
  |false=>
   rw[h1]at h
   rw[Bool.or_eq_false_iff]at h1
   rcases List.mem_cons.1 hv with rfl|hv
   ·exact⟨by have:=of_decide_eq_false h1.1;omega,h1.2⟩
   ·exact Ze4 h v hv
end Dv
/-
 Checks of vectors and matrices.
-/
namespace Go.Proofs.YtdnodlkdndfplaaGreatDoor
open Go.Am Go.Tx Dv Go.Lib
set_option maxRecDepth 100000
theorem Zpo (v:List (List UInt8)) (hs: ∀a∈v,a.length≤9223372036854775806):PureOK Tryz.prog Zat 43 [.v (.l .s) v] (fun V=>V= .v (.i .i64) (Zhe v)):=by
 refine Zak Zal Tryz.func43 ?_
 have hE:Zhe v=match decide ((40:Int)<(v.length:Int))with|true=>2|false=>ZeF v:=rfl
 rw[hE]
 refine And.intro (fun h=> ?_) (fun h=> ?_)
 ·have h':decide ((40:Int)<(v.length:Int))=true:=h
  rw[h']
  rfl
 ·have h':decide ((40:Int)<(v.length:Int))=false:=h
  rw[h']
  refine(ZoU v (by have:=of_decide_eq_false h';omega) hs).mono ?_
  rintro _ rfl
  rfl
theorem Zo5 (v:List (List UInt8)) (hs: ∀a∈v,a.length≤9223372036854775806):PureOK Tryz.prog Zat 26 [.v (.l .s) v] (fun V=>V= .v (.i .i64) (Zhe v)):=by
 refine Zak Zal Tryz.func26 ?_
 have hE:Zhe v=match decide ((40:Int)<(v.length:Int))with|true=>2|false=>ZeF v:=rfl
 rw[hE]
 refine And.intro (fun h=> ?_) (fun h=> ?_)
 ·have h':decide ((40:Int)<(v.length:Int))=true:=h
  rw[h']
  rfl
 ·have h':decide ((40:Int)<(v.length:Int))=false:=h
  rw[h']
  refine(Zl7 v (by have:=of_decide_eq_false h';omega) hs).mono ?_
  rintro _ rfl
  rfl
set_option maxHeartbeats 4000000 in
theorem Zjj (m:List (List (List UInt8))) (hs: ∀v∈m,∀a∈v,a.length≤9223372036854775806):PureOK Tryz.prog Zat 42 [.v (.l (.l .s)) m] (fun V=>V= .v (.i .i64) (ZcG m)):=by
 refine Zak Zal Tryz.func42 ?_
 have hE:ZcG m=match decide ((40:Int)<(m.length:Int))with|true=>2|false=>Zoz (wid m:Nat) m:=rfl
 rw[hE]
 refine And.intro (fun h=> ?_) (fun h=> ?_)
 ·have h':decide ((40:Int)<(m.length:Int))=true:=h
  rw[h']
  rfl
 ·have h':decide ((40:Int)<(m.length:Int))=false:=h
  rw[h']
  have hl40:m.length≤40:=by have:=of_decide_eq_false h';omega
  refine Zaw Zal rfl (fun(i:Nat)=> [(0, .v (.l (.l .s)) m),(9, .v (.l (.l .s)) m),(10, .v (.i .i64) (m.length:Int)),(11, .v (.i .i64) (i:Int))]) (fun _=> [])
   (fun i=>i≤m.length∧Zoz (wid m:Nat) (m.drop i)=Zoz (wid m:Nat) m) (fun i=>m.length-i) ?_ 0 ?_ ?_
  ·rintro i ⟨hi,he⟩
   refine And.intro (fun h=> ?_) (fun h=> ?_)
   ·have hlt:i<m.length:=by have h':(i:Int)<(m.length:Int):=of_decide_eq_true h;omega
    obtain⟨r,hr⟩: ∃x,m[i]=x:=⟨_,rfl⟩
    have gr:m[(i:Int).toNat]? =some r:=by rw[Int.toNat_natCast,List.getElem?_eq_getElem hlt,hr]
    have hrm:=hs r (hr▸List.getElem_mem hlt)
    obtain⟨r0,h0⟩: ∃x,m[0]'(by omega)=x:=⟨_,rfl⟩
    have g0:m[(0:Int).toNat]? =some r0:=by show m[0]? =_;rw[List.getElem?_eq_getElem (by omega),h0]
    have hw:wid m=r0.length:=by
     cases m with
     |nil=>exact absurd hlt (Nat.not_lt_zero _)
     |cons x l=>rw[←h0];rfl
    rw[List.drop_eq_getElem_cons hlt,hr,Zoz,hw]at he
    have wi:IntKind.i64.wrap ((i:Int)+1)=((i+1:Nat):Int):=Zan (by omega) (by omega)
    refine⟨r,Int.natCast_nonneg i,gr, ?_⟩
    refine⟨r0,Int.le_refl 0,g0, ?_⟩
    refine And.intro (fun h2=> ?_) (fun h2=> ?_)
    ·have h2':(!decide ((r.length:Int)=(r0.length:Int)))=true:=h2
     have hd:decide ((r.length:Int)=(r0.length:Int))=false:=by cases hd:decide ((r.length:Int)=(r0.length:Int))<;>simp[hd]at h2'⊢
     rw[hd]at he
     rw[hw]
     exact congrArg (SV.v (.i .i64)) he
    ·have h2':(!decide ((r.length:Int)=(r0.length:Int)))=false:=h2
     have hd:decide ((r.length:Int)=(r0.length:Int))=true:=by cases hd:decide ((r.length:Int)=(r0.length:Int))<;>simp[hd]at h2'⊢
     rw[hd]at he
     simp only at he
     refine(Zpo r hrm).mono ?_
     rintro _ rfl
     refine And.intro (fun h3=> ?_) (fun h3=> ?_)
     ·have h3':(!decide (Zhe r=0))=true:=h3
      have hd2:decide (Zhe r=0)=false:=by cases hd:decide (Zhe r=0)<;>simp[hd]at h3'⊢
      rw[hd2]at he
      rw[hw]
      exact congrArg (SV.v (.i .i64)) he
     ·have h3':(!decide (Zhe r=0))=false:=h3
      have hd2:decide (Zhe r=0)=true:=by cases hd:decide (Zhe r=0)<;>simp[hd]at h3'⊢
      rw[hd2]at he
      simp only at he
      refine⟨i+1,⟨hlt,by rw[hw];exact he⟩,by show m.length-(i+1)<m.length-i;omega, ?_⟩
      refine Zap rfl rfl ?_ ?_
      ·exact⟨rfl,rfl,rfl,wi.symm,trivial⟩
      ·exact trivial
   ·have hi2:i=m.length:=by have h': ¬ (i:Int)<(m.length:Int):=of_decide_eq_false h;omega
    rw[List.drop_of_length_le (by omega)]at he
    exact congrArg (SV.v (.i .i64)) he
  ·exact⟨Nat.zero_le _,rfl⟩
  ·refine Zap rfl rfl ?_ ?_
   ·exact⟨rfl,rfl,rfl,rfl,trivial⟩
   ·exact trivial
set_option maxHeartbeats 4000000 in
theorem Zdl (m:List (List (List UInt8))) (hs: ∀v∈m,∀a∈v,a.length≤9223372036854775806):PureOK Tryz.prog Zat 14 [.v (.l (.l .s)) m] (fun V=>V= .v (.i .i64) (ZcG m)):=by
 refine Zak Zal Tryz.func14 ?_
 have hE:ZcG m=match decide ((40:Int)<(m.length:Int))with|true=>2|false=>Zoz (wid m:Nat) m:=rfl
 rw[hE]
 refine And.intro (fun h=> ?_) (fun h=> ?_)
 ·have h':decide ((40:Int)<(m.length:Int))=true:=h
  rw[h']
  rfl
 ·have h':decide ((40:Int)<(m.length:Int))=false:=h
  rw[h']
  have hl40:m.length≤40:=by have:=of_decide_eq_false h';omega
  refine Zaw Zal rfl (fun(i:Nat)=> [(0, .v (.l (.l .s)) m),(9, .v (.i .i64) (m.length:Int)),(10, .v (.i .i64) (i:Int))]) (fun _=> [])
   (fun i=>i≤m.length∧Zoz (wid m:Nat) (m.drop i)=Zoz (wid m:Nat) m) (fun i=>m.length-i) ?_ 0 ?_ ?_
  ·rintro i ⟨hi,he⟩
   refine And.intro (fun h=> ?_) (fun h=> ?_)
   ·have hlt:i<m.length:=by have h':(i:Int)<(m.length:Int):=of_decide_eq_true h;omega
    obtain⟨r,hr⟩: ∃x,m[i]=x:=⟨_,rfl⟩
    have gr:m[(i:Int).toNat]? =some r:=by rw[Int.toNat_natCast,List.getElem?_eq_getElem hlt,hr]
    have hrm:=hs r (hr▸List.getElem_mem hlt)
    obtain⟨r0,h0⟩: ∃x,m[0]'(by omega)=x:=⟨_,rfl⟩
    have g0:m[(0:Int).toNat]? =some r0:=by show m[0]? =_;rw[List.getElem?_eq_getElem (by omega),h0]
    have hw:wid m=r0.length:=by
     cases m with
     |nil=>exact absurd hlt (Nat.not_lt_zero _)
     |cons x l=>rw[←h0];rfl
    rw[List.drop_eq_getElem_cons hlt,hr,Zoz,hw]at he
    have wi:IntKind.i64.wrap ((i:Int)+1)=((i+1:Nat):Int):=Zan (by omega) (by omega)
    refine⟨r,Int.natCast_nonneg i,gr, ?_⟩
    refine⟨r0,Int.le_refl 0,g0, ?_⟩
    refine And.intro (fun h2=> ?_) (fun h2=> ?_)
    ·have h2':(!decide ((r.length:Int)=(r0.length:Int)))=true:=h2
     have hd:decide ((r.length:Int)=(r0.length:Int))=false:=by cases hd:decide ((r.length:Int)=(r0.length:Int))<;>simp[hd]at h2'⊢
     rw[hd]at he
     rw[hw]
     exact congrArg (SV.v (.i .i64)) he
    ·have h2':(!decide ((r.length:Int)=(r0.length:Int)))=false:=h2
     have hd:decide ((r.length:Int)=(r0.length:Int))=true:=by cases hd:decide ((r.length:Int)=(r0.length:Int))<;>simp[hd]at h2'⊢
     rw[hd]at he
     simp only at he
     refine⟨r,Int.natCast_nonneg i,gr, ?_⟩
     refine(Zo5 r hrm).mono ?_
     rintro _ rfl
     refine And.intro (fun h3=> ?_) (fun h3=> ?_)
     ·have h3':(!decide (Zhe r=0))=true:=h3
      have hd2:decide (Zhe r=0)=false:=by cases hd:decide (Zhe r=0)<;>simp[hd]at h3'⊢
      rw[hd2]at he
      rw[hw]
      exact congrArg (SV.v (.i .i64)) he
     ·have h3':(!decide (Zhe r=0))=false:=h3
      have hd2:decide (Zhe r=0)=true:=by cases hd:decide (Zhe r=0)<;>simp[hd]at h3'⊢
      rw[hd2]at he
      simp only at he
      refine⟨i+1,⟨hlt,by rw[hw];exact he⟩,by show m.length-(i+1)<m.length-i;omega, ?_⟩
      refine Zap rfl rfl ?_ ?_
      ·exact⟨rfl,rfl,wi.symm,trivial⟩
      ·exact trivial
   ·have hi2:i=m.length:=by have h': ¬ (i:Int)<(m.length:Int):=of_decide_eq_false h;omega
    rw[List.drop_of_length_le (by omega)]at he
    exact congrArg (SV.v (.i .i64)) he
  ·exact⟨Nat.zero_le _,rfl⟩
  ·refine Zap rfl rfl ?_ ?_
   ·exact⟨rfl,rfl,rfl,trivial⟩
   ·exact trivial
end Go.Proofs.YtdnodlkdndfplaaGreatDoor
/-
 vast; loss.Exact, loss.Total.
-/
namespace Go.Proofs.YtdnodlkdndfplaaGreatDoor
open Go.Am Go.Tx Dv Go.Lib
set_option maxRecDepth 100000
theorem Zv4 (s:List UInt8):PureOK Tryz.prog Zat 56 [.v .s s] (fun V=>V= .v .b (decide ((12:Int)<(s.length:Int)))):=by
 refine Zak Zal Tryz.func56 ?_
 rfl
set_option maxHeartbeats 4000000 in
theorem Ztn (l:List (List UInt8)) (hl:l.length≤1000):PureOK Tryz.prog Zat 113 [.v (.l .s) l, .func 56 [] []] (fun V=> ∃k:Int,V= .v (.i .i64) k∧(Zf9 12 l=true→0≤k)∧(Zf9 12 l=false→k<0)):=by
 refine Zak Zal Tryz.func113 ?_
 refine Zaw Zal rfl (fun(i:Nat)=> [(0, .v (.l .s) l),(1, .func 56 [] []),(7, .v (.i .i64) (l.length:Int)),(8, .v (.i .i64) (i:Int))]) (fun _=> [])
  (fun i=>i≤l.length∧Zf9 12 (l.drop i)=Zf9 12 l) (fun i=>l.length-i) ?_ 0 ?_ ?_
 ·rintro i ⟨hi,he⟩
  refine And.intro (fun h=> ?_) (fun h=> ?_)
  ·have hlt:i<l.length:=by have h':(i:Int)<(l.length:Int):=of_decide_eq_true h;omega
   obtain⟨s,hs⟩: ∃s,l[i]=s:=⟨_,rfl⟩
   have gs:l[(i:Int).toNat]? =some s:=by rw[Int.toNat_natCast,List.getElem?_eq_getElem hlt,hs]
   rw[List.drop_eq_getElem_cons hlt,hs,Zf9]at he
   refine⟨s,Int.natCast_nonneg i,gs, ?_⟩
   refine(Zv4 s).mono ?_
   rintro _ rfl
   refine And.intro (fun h2=> ?_) (fun h2=> ?_)
   ·have h2':decide ((12:Int)<(s.length:Int))=true:=h2
    rw[h2']at he
    refine⟨(i:Int),rfl,fun _=>Int.natCast_nonneg i,fun h3=> ?_⟩
    rw[←he]at h3
    cases h3
   ·have h2':decide ((12:Int)<(s.length:Int))=false:=h2
    rw[h2']at he
    have wi:IntKind.i64.wrap ((i:Int)+1)=((i+1:Nat):Int):=Zan (by omega) (by omega)
    refine⟨i+1,⟨hlt,he⟩,by show l.length-(i+1)<l.length-i;omega, ?_⟩
    refine Zap rfl rfl ?_ ?_
    ·exact⟨rfl,⟨rfl,trivial,trivial⟩,rfl,wi.symm,trivial⟩
    ·exact trivial
  ·have hi2:i=l.length:=by have h': ¬ (i:Int)<(l.length:Int):=of_decide_eq_false h;omega
   rw[List.drop_of_length_le (by omega)]at he
   refine⟨-1,rfl,fun h3=> ?_,fun _=>by decide⟩
   rw[←he]at h3
   cases h3
 ·exact⟨Nat.zero_le _,rfl⟩
 ·refine Zap rfl rfl ?_ ?_
  ·exact⟨rfl,⟨rfl,trivial,trivial⟩,rfl,rfl,trivial⟩
  ·exact trivial
theorem ZmU (l:List (List UInt8)) (hl:l.length≤1000):PureOK Tryz.prog Zat 55 [.v (.l .s) l, .func 56 [] []] (fun V=>V= .v .b (Zf9 12 l)):=by
 refine Zak Zal Tryz.func55 ?_
 refine(Ztn l hl).mono ?_
 rintro _ ⟨k,rfl,h1,h2⟩
 refine congrArg (SV.v .b) ?_
 cases hb:Zf9 12 l with
 |true=>exact decide_eq_true (h1 hb)
 |false=>exact decide_eq_false (by have:=h2 hb;omega)
set_option maxHeartbeats 8000000 in
theorem ZwA (n:Int) (ms:List (List (List (List UInt8)))) (hl:ms.length≤1000) (hs: ∀x∈ms,(x.length:Int)≤n→x.length≤1000∧ ∀v∈x,(v.length:Int)≤n→v.length≤1000):PureOK Tryz.prog Zat 17 [.v (.i .i64) n, .v (.l (.l (.l .s))) ms] (fun V=>V= .v .b (ZdM n ms)):=by
 refine Zak Zal Tryz.func17 ?_
 refine Zaw Zal rfl (fun(i:Nat)=> [(0, .v (.i .i64) n),(9, .v (.l (.l (.l .s))) ms),(10, .v (.i .i64) (ms.length:Int)),(11, .v (.i .i64) (i:Int))]) (fun _=> [])
  (fun i=>i≤ms.length∧ZdM n (ms.drop i)=ZdM n ms) (fun i=>ms.length-i) ?_ 0 ?_ ?_
 ·rintro i ⟨hi,he⟩
  refine And.intro (fun h=> ?_) (fun h=> ?_)
  ·have hlt:i<ms.length:=by have h':(i:Int)<(ms.length:Int):=of_decide_eq_true h;omega
   obtain⟨x,hx⟩: ∃x,ms[i]=x:=⟨_,rfl⟩
   have gx:ms[(i:Int).toNat]? =some x:=by rw[Int.toNat_natCast,List.getElem?_eq_getElem hlt,hx]
   have hxs:=hs x (hx▸List.getElem_mem hlt)
   rw[List.drop_eq_getElem_cons hlt,hx,ZdM]at he
   have wi:IntKind.i64.wrap ((i:Int)+1)=((i+1:Nat):Int):=Zan (by omega) (by omega)
   refine⟨x,Int.natCast_nonneg i,gx, ?_⟩
   refine And.intro (fun h2=> ?_) (fun h2=> ?_)
   ·have h2':decide (n<(x.length:Int))=true:=h2
    rw[h2',Bool.true_or]at he
    exact congrArg (SV.v .b) he
   ·have h2':decide (n<(x.length:Int))=false:=h2
    rw[h2',Bool.false_or]at he
    obtain⟨hx1,hx2⟩:=hxs (by have:=of_decide_eq_false h2';omega)
    refine Zaw Zal rfl (fun(j:Nat)=> [(0, .v (.i .i64) n),(9, .v (.l (.l (.l .s))) ms),(10, .v (.i .i64) (ms.length:Int)),(11, .v (.i .i64) (i:Int)),(19, .v (.l (.l .s)) x),(20, .v (.i .i64) (x.length:Int)),(21, .v (.i .i64) (j:Int))]) (fun _=> [])
     (fun j=>j≤x.length∧Zif n (x.drop j)=Zif n x) (fun j=>x.length-j) ?_ 0 ?_ ?_
    ·rintro j ⟨hj,hj2⟩
     refine And.intro (fun h=> ?_) (fun h=> ?_)
     ·have hltj:j<x.length:=by have h':(j:Int)<(x.length:Int):=of_decide_eq_true h;omega
      obtain⟨v,hv⟩: ∃v,x[j]=v:=⟨_,rfl⟩
      have gv:x[(j:Int).toNat]? =some v:=by rw[Int.toNat_natCast,List.getElem?_eq_getElem hltj,hv]
      have hvs:=hx2 v (hv▸List.getElem_mem hltj)
      rw[List.drop_eq_getElem_cons hltj,hv,Zif]at hj2
      have wj:IntKind.i64.wrap ((j:Int)+1)=((j+1:Nat):Int):=Zan (by omega) (by omega)
      refine⟨v,Int.natCast_nonneg j,gv, ?_⟩
      cases b1:decide (n<(v.length:Int))with
      |true=>
       rw[b1,Bool.true_or]at hj2
       rw[←hj2]at he
       repeat (first|refine Zaj ?_|refine Zaf ?_|refine Zac ?_)
       first|refine Zab (Zaa (id:=9) rfl ?_)|refine Zab (Zab (Zaa (id:=9) rfl ?_))|refine Zaa (id:=9) rfl ?_|refine Zab (Zad rfl (Zab (Zaa (id:=9) rfl ?_)))|refine Zad rfl (Zab (Zaa (id:=9) rfl ?_))
       refine Zah rfl (fun _=>rfl) rfl rfl ?_
       refine Zah rfl (fun _=>rfl) rfl rfl ?_
       refine Zah rfl (fun _=>rfl) rfl rfl ?_
       refine Zah rfl (fun _=>rfl) rfl rfl ?_
       refine Zah rfl (fun _=>rfl) rfl rfl ?_
       refine Zag rfl rfl rfl b1 rfl rfl ?_
       refine Zag rfl rfl rfl b1 rfl rfl ?_
       refine ZaG rfl rfl rfl b1 rfl rfl rfl ?_
       refine Zam ?_
       repeat (first|refine Zaf ?_|refine Zac ?_)
       refine And.intro (fun _=> ?_) (fun h=>by first|(cases h;done)|exact(nf b1 h).elim)
       exact congrArg (SV.v .b) he
      |false=>
       have hcon:=ZmU v (hvs (by have:=of_decide_eq_false b1;omega))
       rw[b1,Bool.false_or]at hj2
       cases b2:Zf9 12 v with
       |true=>
        rw[b2]at hj2 hcon
        rw[←hj2]at he
        repeat (first|refine Zaj ?_|refine Zaf ?_|refine Zac ?_)
        first|refine Zab (Zaa (id:=9) rfl ?_)|refine Zab (Zab (Zaa (id:=9) rfl ?_))|refine Zaa (id:=9) rfl ?_|refine Zab (Zad rfl (Zab (Zaa (id:=9) rfl ?_)))|refine Zad rfl (Zab (Zaa (id:=9) rfl ?_))
        refine Zah rfl (fun _=>rfl) rfl rfl ?_
        refine Zah rfl (fun _=>rfl) rfl rfl ?_
        refine Zah rfl (fun _=>rfl) rfl rfl ?_
        refine Zah rfl (fun _=>rfl) rfl rfl ?_
        refine Zah rfl (fun _=>rfl) rfl rfl ?_
        refine Zae rfl rfl rfl b1 (fun _=>rfl) rfl rfl ?_
        refine Za9 rfl rfl rfl b1 ((hcon).mono ?_)
        rintro _ rfl
        refine ZaE rfl rfl ?_
        refine Zax rfl rfl rfl b1 rfl rfl rfl ?_
        refine Zam ?_
        repeat (first|refine Zaf ?_|refine Zac ?_)
        refine And.intro (fun _=> ?_) (fun h=>by cases h)
        exact congrArg (SV.v .b) he
       |false=>
        rw[b2]at hj2 hcon
        repeat (first|refine Zaj ?_|refine Zaf ?_|refine Zac ?_)
        first|refine Zab (Zaa (id:=9) rfl ?_)|refine Zab (Zab (Zaa (id:=9) rfl ?_))|refine Zaa (id:=9) rfl ?_|refine Zab (Zad rfl (Zab (Zaa (id:=9) rfl ?_)))|refine Zad rfl (Zab (Zaa (id:=9) rfl ?_))
        refine Zah rfl (fun _=>rfl) rfl rfl ?_
        refine Zah rfl (fun _=>rfl) rfl rfl ?_
        refine Zah rfl (fun _=>rfl) rfl rfl ?_
        refine Zah rfl (fun _=>rfl) rfl rfl ?_
        refine Zah rfl (fun _=>rfl) rfl rfl ?_
        refine Zae rfl rfl rfl b1 (fun _=>rfl) rfl rfl ?_
        refine Za9 rfl rfl rfl b1 ((hcon).mono ?_)
        rintro _ rfl
        refine ZaE rfl rfl ?_
        refine Zax rfl rfl rfl b1 rfl rfl rfl ?_
        refine Zam ?_
        repeat (first|refine Zaf ?_|refine Zac ?_)
        refine And.intro (fun h=>by cases h) (fun _=> ?_)
        refine⟨j+1,⟨hltj,hj2⟩,by show x.length-(j+1)<x.length-j;omega, ?_⟩
        refine Zap rfl rfl ?_ ?_
        ·exact⟨rfl,rfl,rfl,rfl,rfl,rfl,wj.symm,trivial⟩
        ·exact trivial
     ·have hj3:j=x.length:=by have h': ¬ (j:Int)<(x.length:Int):=of_decide_eq_false h;omega
      rw[List.drop_of_length_le (by omega),Zif]at hj2
      rw[←hj2]at he
      refine⟨i+1,⟨hlt,he⟩,by show ms.length-(i+1)<ms.length-i;omega, ?_⟩
      refine Zap rfl rfl ?_ ?_
      ·exact⟨rfl,rfl,rfl,wi.symm,trivial⟩
      ·exact trivial
    ·exact⟨Nat.zero_le _,rfl⟩
    ·refine Zap rfl rfl ?_ ?_
     ·exact⟨rfl,rfl,rfl,rfl,rfl,rfl,rfl,trivial⟩
     ·exact trivial
  ·have hi2:i=ms.length:=by have h': ¬ (i:Int)<(ms.length:Int):=of_decide_eq_false h;omega
   rw[List.drop_of_length_le (by omega)]at he
   exact congrArg (SV.v .b) he
 ·exact⟨Nat.zero_le _,rfl⟩
 ·refine Zap rfl rfl ?_ ?_
  ·exact⟨rfl,rfl,rfl,rfl,trivial⟩
  ·exact trivial
end Go.Proofs.YtdnodlkdndfplaaGreatDoor

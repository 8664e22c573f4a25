/-
 Vectors and matrices as texts, in plain Lean.
-/
import Derived.Test.YtdnodlkdndfplaaGreatDoorQA
import Derived.Test.YtdnodlkdndfplaaGreatDoorQ9
set_option linter.constructorNameAsVariable false
set_option linter.unusedSimpArgs false
set_option linter.unusedVariables false
namespace Dv
open Go Go.Lib
def ZdP (v:List (List UInt8)):Int:=match decide ((40:Int)<(v.length:Int))with
 |true=>2
 |false=>ZfF v
def ZqY (w:Int):List (List (List UInt8))→Int
 | []=>0
 |r::l=>match decide ((r.length:Int)=w)with
  |false=>3
  |true=>match decide (ZdP r=0)with
   |true=>ZqY w l
   |false=>ZdP r
def wid (m:List (List (List UInt8))):Nat:=match m with
 | []=>0
 |r::_=>r.length
def Zjy (m:List (List (List UInt8))):Int:=match decide ((40:Int)<(m.length:Int))with
 |true=>2
 |false=>ZqY (wid m:Nat) m
def Zny (a b:Int):Int:=match decide (a=0)with
 |true=>b
 |false=>a
def Zyl:List Int→Int
 | []=>0
 |x::r=>match decide (x=0)with
  |true=>Zyl r
  |false=>x
theorem ZvA (a b:Int):Zyl [a,b]=Zny a b:=by
 simp only[Zyl,Zny]
 cases decide (a=0)with
 |true=>
  simp only
  cases hb:decide (b=0)with
  |true=>simp only;exact(of_decide_eq_true hb).symm
  |false=>rfl
 |false=>rfl
theorem Zmg {v:List (List UInt8)} (h:ZdP v=0):v.length≤40∧ZfF v=0:=by
 unfold ZdP at h
 cases hv:decide ((40:Int)<(v.length:Int))with
 |true=>rw[hv]at h;cases h
 |false=>rw[hv]at h;exact⟨by have:=of_decide_eq_false hv;omega,h⟩
def Zg1 (n:Int):List (List UInt8)→Bool
 | []=>false
 |s::r=>match decide (n<(s.length:Int))with
  |true=>true
  |false=>Zg1 n r
def ZjA (n:Int):List (List (List UInt8))→Bool
 | []=>false
 |v::r=>match decide (n<(v.length:Int))||Zg1 12 v with
  |true=>true
  |false=>ZjA n r
def ZiF (n:Int):List (List (List (List UInt8)))→Bool
 | []=>false
 |x::r=>match decide (n<(x.length:Int))||ZjA n x with
  |true=>true
  |false=>ZiF n r
theorem Zmv {n:Int}: ∀ {l:List (List UInt8)},Zg1 n l=false→ ∀a∈l,(a.length:Int)≤n
 | [],_,_,h=>absurd h List.not_mem_nil
 |s::r,h,a,ha=>by
  rw[Zg1]at h
  cases h1:decide (n<(s.length:Int))with
  |true=>rw[h1]at h;cases h
  |false=>
   rw[h1]at h
   rcases List.mem_cons.1 ha with rfl|ha
   ·have:=of_decide_eq_false h1;omega
   ·exact Zmv h a ha
theorem ZiZ {n:Int}: ∀ {l:List (List (List UInt8))},ZjA n l=false→ ∀v∈l,(v.length:Int)≤n∧ ∀a∈v,(a.length:Int)≤12
 | [],_,_,h=>absurd h List.not_mem_nil
 |s::r,h,v,hv=>by
  rw[ZjA]at h
  cases h1:decide (n<(s.length:Int))||Zg1 12 s with
  |true=>rw[h1]at h;cases h
  |false=>
   rw[h1]at h
   rw[Bool.or_eq_false_iff]at h1
   rcases List.mem_cons.1 hv with rfl|hv
   ·exact⟨by have:=of_decide_eq_false h1.1;omega,Zmv h1.2⟩
   ·exact ZiZ h v hv
theorem Zij {n:Int}: ∀ {l:List (List (List (List UInt8)))},ZiF n l=false→ ∀x∈l,(x.length:Int)≤n∧ZjA n x=false
 | [],_,_,h=>absurd h List.not_mem_nil
 |s::r,h,v,hv=>by
  rw[ZiF]at h
  cases h1:decide (n<(s.length:Int))||ZjA n s with
  |true=>rw[h1]at h;cases h
  |false=>
   rw[h1]at h
   rw[Bool.or_eq_false_iff]at h1
   rcases List.mem_cons.1 hv with rfl|hv
   ·exact⟨by have:=of_decide_eq_false h1.1;omega,h1.2⟩
   ·exact Zij h v hv
end Dv
/-
 Checks of vectors and matrices.
-/
namespace Go.Proofs.YtdnodlkdndfplaaGreatDoor
open Go.Am Go.Tx Dv Go.Lib
set_option maxRecDepth 100000
theorem ZkA (v:List (List UInt8)) (hs: ∀a∈v,a.length≤9223372036854775806):PureOK Tryz.prog Zan 43 [.v (.l .s) v] (fun V=>V= .v (.i .i64) (ZdP v)):=by
 refine Zac Zaa Tryz.func43 ?_
 have hE:ZdP v=match decide ((40:Int)<(v.length:Int))with|true=>2|false=>ZfF v:=rfl
 rw[hE]
 refine And.intro (fun h=> ?_) (fun h=> ?_)
 ·have h':decide ((40:Int)<(v.length:Int))=true:=h
  rw[h']
  rfl
 ·have h':decide ((40:Int)<(v.length:Int))=false:=h
  rw[h']
  refine(ZqU v (by have:=of_decide_eq_false h';omega) hs).mono ?_
  rintro _ rfl
  rfl
theorem Zkt (v:List (List UInt8)) (hs: ∀a∈v,a.length≤9223372036854775806):PureOK Tryz.prog Zan 26 [.v (.l .s) v] (fun V=>V= .v (.i .i64) (ZdP v)):=by
 refine Zac Zaa Tryz.func26 ?_
 have hE:ZdP v=match decide ((40:Int)<(v.length:Int))with|true=>2|false=>ZfF v:=rfl
 rw[hE]
 refine And.intro (fun h=> ?_) (fun h=> ?_)
 ·have h':decide ((40:Int)<(v.length:Int))=true:=h
  rw[h']
  rfl
 ·have h':decide ((40:Int)<(v.length:Int))=false:=h
  rw[h']
  refine(ZnN v (by have:=of_decide_eq_false h';omega) hs).mono ?_
  rintro _ rfl
  rfl
set_option maxHeartbeats 4000000 in
theorem ZuR (m:List (List (List UInt8))) (hs: ∀v∈m,∀a∈v,a.length≤9223372036854775806):PureOK Tryz.prog Zan 42 [.v (.l (.l .s)) m] (fun V=>V= .v (.i .i64) (Zjy m)):=by
 refine Zac Zaa Tryz.func42 ?_
 have hE:Zjy m=match decide ((40:Int)<(m.length:Int))with|true=>2|false=>ZqY (wid m:Nat) m:=rfl
 rw[hE]
 refine And.intro (fun h=> ?_) (fun h=> ?_)
 ·have h':decide ((40:Int)<(m.length:Int))=true:=h
  rw[h']
  rfl
 ·have h':decide ((40:Int)<(m.length:Int))=false:=h
  rw[h']
  have hl40:m.length≤40:=by have:=of_decide_eq_false h';omega
  refine Zat Zaa rfl (fun(i:Nat)=> [(0, .v (.l (.l .s)) m),(9, .v (.l (.l .s)) m),(10, .v (.i .i64) (m.length:Int)),(11, .v (.i .i64) (i:Int))]) (fun _=> [])
   (fun i=>i≤m.length∧ZqY (wid m:Nat) (m.drop i)=ZqY (wid m:Nat) m) (fun i=>m.length-i) ?_ 0 ?_ ?_
  ·rintro i ⟨hi,he⟩
   refine And.intro (fun h=> ?_) (fun h=> ?_)
   ·have hlt:i<m.length:=by have h':(i:Int)<(m.length:Int):=of_decide_eq_true h;omega
    obtain⟨r,hr⟩: ∃x,m[i]=x:=⟨_,rfl⟩
    have gr:m[(i:Int).toNat]? =some r:=by rw[Int.toNat_natCast,List.getElem?_eq_getElem hlt,hr]
    have hrm:=hs r (hr▸List.getElem_mem hlt)
    obtain⟨r0,h0⟩: ∃x,m[0]'(by omega)=x:=⟨_,rfl⟩
    have g0:m[(0:Int).toNat]? =some r0:=by show m[0]? =_;rw[List.getElem?_eq_getElem (by omega),h0]
    have hw:wid m=r0.length:=by
     cases m with
     |nil=>exact absurd hlt (Nat.not_lt_zero _)
     |cons x l=>rw[←h0];rfl
    rw[List.drop_eq_getElem_cons hlt,hr,ZqY,hw]at he
    have wi:IntKind.i64.wrap ((i:Int)+1)=((i+1:Nat):Int):=Zah (by omega) (by omega)
    refine⟨r,Int.natCast_nonneg i,gr, ?_⟩
    refine⟨r0,Int.le_refl 0,g0, ?_⟩
    refine And.intro (fun h2=> ?_) (fun h2=> ?_)
    ·have h2':(!decide ((r.length:Int)=(r0.length:Int)))=true:=h2
     have hd:decide ((r.length:Int)=(r0.length:Int))=false:=by cases hd:decide ((r.length:Int)=(r0.length:Int))<;>simp[hd]at h2'⊢
     rw[hd]at he
     rw[hw]
     exact congrArg (SV.v (.i .i64)) he
    ·have h2':(!decide ((r.length:Int)=(r0.length:Int)))=false:=h2
     have hd:decide ((r.length:Int)=(r0.length:Int))=true:=by cases hd:decide ((r.length:Int)=(r0.length:Int))<;>simp[hd]at h2'⊢
     rw[hd]at he
     simp only at he
     refine(ZkA r hrm).mono ?_
     rintro _ rfl
     refine And.intro (fun h3=> ?_) (fun h3=> ?_)
     ·have h3':(!decide (ZdP r=0))=true:=h3
      have hd2:decide (ZdP r=0)=false:=by cases hd:decide (ZdP r=0)<;>simp[hd]at h3'⊢
      rw[hd2]at he
      rw[hw]
      exact congrArg (SV.v (.i .i64)) he
     ·have h3':(!decide (ZdP r=0))=false:=h3
      have hd2:decide (ZdP r=0)=true:=by cases hd:decide (ZdP r=0)<;>simp[hd]at h3'⊢
      rw[hd2]at he
      simp only at he
      refine⟨i+1,⟨hlt,by rw[hw];exact he⟩,by show m.length-(i+1)<m.length-i;omega, ?_⟩
      refine Zal rfl rfl ?_ ?_
      ·exact⟨rfl,rfl,rfl,wi.symm,trivial⟩
      ·exact trivial
   ·have hi2:i=m.length:=by have h': ¬ (i:Int)<(m.length:Int):=of_decide_eq_false h;omega
    rw[List.drop_of_length_le (by omega)]at he
    exact congrArg (SV.v (.i .i64)) he
  ·exact⟨Nat.zero_le _,rfl⟩
  ·refine Zal rfl rfl ?_ ?_
   ·exact⟨rfl,rfl,rfl,rfl,trivial⟩
   ·exact trivial
set_option maxHeartbeats 4000000 in
theorem Zls (m:List (List (List UInt8))) (hs: ∀v∈m,∀a∈v,a.length≤9223372036854775806):PureOK Tryz.prog Zan 14 [.v (.l (.l .s)) m] (fun V=>V= .v (.i .i64) (Zjy m)):=by
 refine Zac Zaa Tryz.func14 ?_
 have hE:Zjy m=match decide ((40:Int)<(m.length:Int))with|true=>2|false=>ZqY (wid m:Nat) m:=rfl
 rw[hE]
 refine And.intro (fun h=> ?_) (fun h=> ?_)
 ·have h':decide ((40:Int)<(m.length:Int))=true:=h
  rw[h']
  rfl
 ·have h':decide ((40:Int)<(m.length:Int))=false:=h
  rw[h']
  have hl40:m.length≤40:=by have:=of_decide_eq_false h';omega
  refine Zat Zaa rfl (fun(i:Nat)=> [(0, .v (.l (.l .s)) m),(9, .v (.i .i64) (m.length:Int)),(10, .v (.i .i64) (i:Int))]) (fun _=> [])
   (fun i=>i≤m.length∧ZqY (wid m:Nat) (m.drop i)=ZqY (wid m:Nat) m) (fun i=>m.length-i) ?_ 0 ?_ ?_
  ·rintro i ⟨hi,he⟩
   refine And.intro (fun h=> ?_) (fun h=> ?_)
   ·have hlt:i<m.length:=by have h':(i:Int)<(m.length:Int):=of_decide_eq_true h;omega
    obtain⟨r,hr⟩: ∃x,m[i]=x:=⟨_,rfl⟩
    have gr:m[(i:Int).toNat]? =some r:=by rw[Int.toNat_natCast,List.getElem?_eq_getElem hlt,hr]
    have hrm:=hs r (hr▸List.getElem_mem hlt)
    obtain⟨r0,h0⟩: ∃x,m[0]'(by omega)=x:=⟨_,rfl⟩
    have g0:m[(0:Int).toNat]? =some r0:=by show m[0]? =_;rw[List.getElem?_eq_getElem (by omega),h0]
    have hw:wid m=r0.length:=by
     cases m with
     |nil=>exact absurd hlt (Nat.not_lt_zero _)
     |cons x l=>rw[←h0];rfl
    rw[List.drop_eq_getElem_cons hlt,hr,ZqY,hw]at he
    have wi:IntKind.i64.wrap ((i:Int)+1)=((i+1:Nat):Int):=Zah (by omega) (by omega)
    refine⟨r,Int.natCast_nonneg i,gr, ?_⟩
    refine⟨r0,Int.le_refl 0,g0, ?_⟩
    refine And.intro (fun h2=> ?_) (fun h2=> ?_)
    ·have h2':(!decide ((r.length:Int)=(r0.length:Int)))=true:=h2
     have hd:decide ((r.length:Int)=(r0.length:Int))=false:=by cases hd:decide ((r.length:Int)=(r0.length:Int))<;>simp[hd]at h2'⊢
     rw[hd]at he
     rw[hw]
     exact congrArg (SV.v (.i .i64)) he
    ·have h2':(!decide ((r.length:Int)=(r0.length:Int)))=false:=h2
     have hd:decide ((r.length:Int)=(r0.length:Int))=true:=by cases hd:decide ((r.length:Int)=(r0.length:Int))<;>simp[hd]at h2'⊢
     rw[hd]at he
     simp only at he
     refine⟨r,Int.natCast_nonneg i,gr, ?_⟩
     refine(Zkt r hrm).mono ?_
     rintro _ rfl
     refine And.intro (fun h3=> ?_) (fun h3=> ?_)
     ·have h3':(!decide (ZdP r=0))=true:=h3
      have hd2:decide (ZdP r=0)=false:=by cases hd:decide (ZdP r=0)<;>simp[hd]at h3'⊢
      rw[hd2]at he
      rw[hw]
      exact congrArg (SV.v (.i .i64)) he
     ·have h3':(!decide (ZdP r=0))=false:=h3
      have hd2:decide (ZdP r=0)=true:=by cases hd:decide (ZdP r=0)<;>simp[hd]at h3'⊢
      rw[hd2]at he
      simp only at he
      refine⟨i+1,⟨hlt,by rw[hw];exact he⟩,by show m.length-(i+1)<m.length-i;omega, ?_⟩
      refine Zal rfl rfl ?_ ?_
      ·exact⟨rfl,rfl,wi.symm,trivial⟩
      ·exact trivial
   ·have hi2:i=m.length:=by have h': ¬ (i:Int)<(m.length:Int):=of_decide_eq_false h;omega
    rw[List.drop_of_length_le (by omega)]at he
    exact congrArg (SV.v (.i .i64)) he
  ·exact⟨Nat.zero_le _,rfl⟩
  ·refine Zal rfl rfl ?_ ?_
   ·exact⟨rfl,rfl,rfl,trivial⟩
   ·exact trivial
end Go.Proofs.YtdnodlkdndfplaaGreatDoor
/-
 vast; loss.Exact, loss.Total.
-/
namespace Go.Proofs.YtdnodlkdndfplaaGreatDoor
open Go.Am Go.Tx Dv Go.Lib
set_option maxRecDepth 100000
theorem ZAl (s:List UInt8):PureOK Tryz.prog Zan 56 [.v .s s] (fun V=>V= .v .b (decide ((12:Int)<(s.length:Int)))):=by
 refine Zac Zaa Tryz.func56 ?_
 rfl
set_option maxHeartbeats 4000000 in
theorem Zv9 (l:List (List UInt8)) (hl:l.length≤1000):PureOK Tryz.prog Zan 113 [.v (.l .s) l, .func 56 [] []] (fun V=> ∃k:Int,V= .v (.i .i64) k∧(Zg1 12 l=true→0≤k)∧(Zg1 12 l=false→k<0)):=by
 refine Zac Zaa Tryz.func113 ?_
 refine Zat Zaa rfl (fun(i:Nat)=> [(0, .v (.l .s) l),(1, .func 56 [] []),(7, .v (.i .i64) (l.length:Int)),(8, .v (.i .i64) (i:Int))]) (fun _=> [])
  (fun i=>i≤l.length∧Zg1 12 (l.drop i)=Zg1 12 l) (fun i=>l.length-i) ?_ 0 ?_ ?_
 ·rintro i ⟨hi,he⟩
  refine And.intro (fun h=> ?_) (fun h=> ?_)
  ·have hlt:i<l.length:=by have h':(i:Int)<(l.length:Int):=of_decide_eq_true h;omega
   obtain⟨s,hs⟩: ∃s,l[i]=s:=⟨_,rfl⟩
   have gs:l[(i:Int).toNat]? =some s:=by rw[Int.toNat_natCast,List.getElem?_eq_getElem hlt,hs]
   rw[List.drop_eq_getElem_cons hlt,hs,Zg1]at he
   refine⟨s,Int.natCast_nonneg i,gs, ?_⟩
   refine(ZAl s).mono ?_
   rintro _ rfl
   refine And.intro (fun h2=> ?_) (fun h2=> ?_)
   ·have h2':decide ((12:Int)<(s.length:Int))=true:=h2
    rw[h2']at he
    refine⟨(i:Int),rfl,fun _=>Int.natCast_nonneg i,fun h3=> ?_⟩
    rw[←he]at h3
    cases h3
   ·have h2':decide ((12:Int)<(s.length:Int))=false:=h2
    rw[h2']at he
    have wi:IntKind.i64.wrap ((i:Int)+1)=((i+1:Nat):Int):=Zah (by omega) (by omega)
    refine⟨i+1,⟨hlt,he⟩,by show l.length-(i+1)<l.length-i;omega, ?_⟩
    refine Zal rfl rfl ?_ ?_
    ·exact⟨rfl,⟨rfl,trivial,trivial⟩,rfl,wi.symm,trivial⟩
    ·exact trivial
  ·have hi2:i=l.length:=by have h': ¬ (i:Int)<(l.length:Int):=of_decide_eq_false h;omega
   rw[List.drop_of_length_le (by omega)]at he
   refine⟨-1,rfl,fun h3=> ?_,fun _=>by decide⟩
   rw[←he]at h3
   cases h3
 ·exact⟨Nat.zero_le _,rfl⟩
 ·refine Zal rfl rfl ?_ ?_
  ·exact⟨rfl,⟨rfl,trivial,trivial⟩,rfl,rfl,trivial⟩
  ·exact trivial
theorem Zof (l:List (List UInt8)) (hl:l.length≤1000):PureOK Tryz.prog Zan 55 [.v (.l .s) l, .func 56 [] []] (fun V=>V= .v .b (Zg1 12 l)):=by
 refine Zac Zaa Tryz.func55 ?_
 refine(Zv9 l hl).mono ?_
 rintro _ ⟨k,rfl,h1,h2⟩
 refine congrArg (SV.v .b) ?_
 cases hb:Zg1 12 l with
 |true=>exact decide_eq_true (h1 hb)
 |false=>exact decide_eq_false (by have:=h2 hb;omega)
set_option maxHeartbeats 8000000 in
theorem ZAP (n:Int) (ms:List (List (List (List UInt8)))) (hl:ms.length≤1000) (hs: ∀x∈ms,(x.length:Int)≤n→x.length≤1000∧ ∀v∈x,(v.length:Int)≤n→v.length≤1000):PureOK Tryz.prog Zan 17 [.v (.i .i64) n, .v (.l (.l (.l .s))) ms] (fun V=>V= .v .b (ZiF n ms)):=by
 refine Zac Zaa Tryz.func17 ?_
 refine Zat Zaa rfl (fun(i:Nat)=> [(0, .v (.i .i64) n),(9, .v (.l (.l (.l .s))) ms),(10, .v (.i .i64) (ms.length:Int)),(11, .v (.i .i64) (i:Int))]) (fun _=> [])
  (fun i=>i≤ms.length∧ZiF n (ms.drop i)=ZiF n ms) (fun i=>ms.length-i) ?_ 0 ?_ ?_
 ·rintro i ⟨hi,he⟩
  refine And.intro (fun h=> ?_) (fun h=> ?_)
  ·have hlt:i<ms.length:=by have h':(i:Int)<(ms.length:Int):=of_decide_eq_true h;omega
   obtain⟨x,hx⟩: ∃x,ms[i]=x:=⟨_,rfl⟩
   have gx:ms[(i:Int).toNat]? =some x:=by rw[Int.toNat_natCast,List.getElem?_eq_getElem hlt,hx]
   have hxs:=hs x (hx▸List.getElem_mem hlt)
   rw[List.drop_eq_getElem_cons hlt,hx,ZiF]at he
   have wi:IntKind.i64.wrap ((i:Int)+1)=((i+1:Nat):Int):=Zah (by omega) (by omega)
   refine⟨x,Int.natCast_nonneg i,gx, ?_⟩
   refine And.intro (fun h2=> ?_) (fun h2=> ?_)
   ·have h2':decide (n<(x.length:Int))=true:=h2
    rw[h2',Bool.true_or]at he
    exact congrArg (SV.v .b) he
   ·have h2':decide (n<(x.length:Int))=false:=h2
    rw[h2',Bool.false_or]at he
    obtain⟨hx1,hx2⟩:=hxs (by have:=of_decide_eq_false h2';omega)
    refine Zat Zaa rfl (fun(j:Nat)=> [(0, .v (.i .i64) n),(9, .v (.l (.l (.l .s))) ms),(10, .v (.i .i64) (ms.length:Int)),(11, .v (.i .i64) (i:Int)),(19, .v (.l (.l .s)) x),(20, .v (.i .i64) (x.length:Int)),(21, .v (.i .i64) (j:Int))]) (fun _=> [])
     (fun j=>j≤x.length∧ZjA n (x.drop j)=ZjA n x) (fun j=>x.length-j) ?_ 0 ?_ ?_
    ·rintro j ⟨hj,hj2⟩
     refine And.intro (fun h=> ?_) (fun h=> ?_)
     ·have hltj:j<x.length:=by have h':(j:Int)<(x.length:Int):=of_decide_eq_true h;omega
      obtain⟨v,hv⟩: ∃v,x[j]=v:=⟨_,rfl⟩
      have gv:x[(j:Int).toNat]? =some v:=by rw[Int.toNat_natCast,List.getElem?_eq_getElem hltj,hv]
      have hvs:=hx2 v (hv▸List.getElem_mem hltj)
      rw[List.drop_eq_getElem_cons hltj,hv,ZjA]at hj2
      have wj:IntKind.i64.wrap ((j:Int)+1)=((j+1:Nat):Int):=Zah (by omega) (by omega)
      refine⟨v,Int.natCast_nonneg j,gv, ?_⟩
      cases b1:decide (n<(v.length:Int))with
      |true=>
       rw[b1,Bool.true_or]at hj2
       rw[←hj2]at he
       refine Zas ?_
       iterate 5 refine Zad ?_
       refine ZaL b1 ?_
       refine ZaL b1 ?_
       refine ZaY b1 ?_
       refine Zaq ?_
       refine brT b1 ?_
       exact congrArg (SV.v .b) he
      |false=>
       have hcon:=Zof v (hvs (by have:=of_decide_eq_false b1;omega))
       rw[b1,Bool.false_or]at hj2
       cases b2:Zg1 12 v with
       |true=>
        rw[b2]at hj2 hcon
        rw[←hj2]at he
        refine Zas ?_
        iterate 5 refine Zad ?_
        refine Zae b1 ?_
        refine ZaP rfl rfl rfl b1 ((hcon).mono ?_)
        rintro _ rfl
        refine Zab rfl rfl ?_
        refine ZaW b1 ?_
        refine Zaq ?_
        refine And.intro (fun _=> ?_) (fun h=>by cases h)
        exact congrArg (SV.v .b) he
       |false=>
        rw[b2]at hj2 hcon
        refine Zas ?_
        iterate 5 refine Zad ?_
        refine Zae b1 ?_
        refine ZaP rfl rfl rfl b1 ((hcon).mono ?_)
        rintro _ rfl
        refine Zab rfl rfl ?_
        refine ZaW b1 ?_
        refine Zaq ?_
        refine And.intro (fun h=>by cases h) (fun _=> ?_)
        refine⟨j+1,⟨hltj,hj2⟩,by show x.length-(j+1)<x.length-j;omega, ?_⟩
        refine Zal rfl rfl ?_ ?_
        ·exact⟨rfl,rfl,rfl,rfl,rfl,rfl,wj.symm,trivial⟩
        ·exact trivial
     ·have hj3:j=x.length:=by have h': ¬ (j:Int)<(x.length:Int):=of_decide_eq_false h;omega
      rw[List.drop_of_length_le (by omega),ZjA]at hj2
      rw[←hj2]at he
      refine⟨i+1,⟨hlt,he⟩,by show ms.length-(i+1)<ms.length-i;omega, ?_⟩
      refine Zal rfl rfl ?_ ?_
      ·exact⟨rfl,rfl,rfl,wi.symm,trivial⟩
      ·exact trivial
    ·exact⟨Nat.zero_le _,rfl⟩
    ·refine Zal rfl rfl ?_ ?_
     ·exact⟨rfl,rfl,rfl,rfl,rfl,rfl,rfl,trivial⟩
     ·exact trivial
  ·have hi2:i=ms.length:=by have h': ¬ (i:Int)<(ms.length:Int):=of_decide_eq_false h;omega
   rw[List.drop_of_length_le (by omega)]at he
   exact congrArg (SV.v .b) he
 ·exact⟨Nat.zero_le _,rfl⟩
 ·refine Zal rfl rfl ?_ ?_
  ·exact⟨rfl,rfl,rfl,rfl,trivial⟩
  ·exact trivial
end Go.Proofs.YtdnodlkdndfplaaGreatDoor

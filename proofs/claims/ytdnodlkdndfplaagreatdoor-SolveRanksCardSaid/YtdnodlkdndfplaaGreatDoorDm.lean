/-
 Vectors and matrices as texts, in plain Lean.
-/
import Derived.Test.YtdnodlkdndfplaaGreatDoorQA
import Derived.Test.YtdnodlkdndfplaaGreatDoorQ9
import Derived.Test.YtdnodlkdndfplaaGreatDoorTxE
set_option linter.constructorNameAsVariable false
set_option linter.unusedSimpArgs false
set_option linter.unusedVariables false
namespace Dv
open Go Go.Lib
def ZiY (v:List (List UInt8)):Int:=match decide ((40:Int)<(v.length:Int))with
 |true=>2
 |false=>Zfo v
def Zq3 (w:Int):List (List (List UInt8))→Int
 | []=>0
 |r::l=>match decide ((r.length:Int)=w)with
  |false=>3
  |true=>match decide (ZiY r=0)with
   |true=>Zq3 w l
   |false=>ZiY r
def wid (m:List (List (List UInt8))):Nat:=match m with
 | []=>0
 |r::_=>r.length
def Zlo (m:List (List (List UInt8))):Int:=match decide ((40:Int)<(m.length:Int))with
 |true=>2
 |false=>Zq3 (wid m:Nat) m
theorem ZsZ {v:List (List UInt8)} (h:ZiY v=0):v.length≤40∧Zfo v=0:=by
 unfold ZiY at h
 cases hv:decide ((40:Int)<(v.length:Int))with
 |true=>rw[hv]at h;cases h
 |false=>rw[hv]at h;exact⟨by have:=of_decide_eq_false hv;omega,h⟩
def ZgQ (n:Int):List (List UInt8)→Bool
 | []=>false
 |s::r=>match decide (n<(s.length:Int))with
  |true=>true
  |false=>ZgQ n r
def Zi7 (n:Int):List (List (List UInt8))→Bool
 | []=>false
 |v::r=>match decide (n<(v.length:Int))||ZgQ 12 v with
  |true=>true
  |false=>Zi7 n r
def Zi8 (n:Int):List (List (List (List UInt8)))→Bool
 | []=>false
 |x::r=>match decide (n<(x.length:Int))||Zi7 n x with
  |true=>true
  |false=>Zi8 n r
theorem ZlZ {n:Int}: ∀ {l:List (List UInt8)},ZgQ n l=false→ ∀a∈l,(a.length:Int)≤n
 | [],_,_,h=>absurd h List.not_mem_nil
 |s::r,h,a,ha=>by
  rw[ZgQ]at h
  cases h1:decide (n<(s.length:Int))with
  |true=>rw[h1]at h;cases h
  |false=>
   rw[h1]at h
   rcases List.mem_cons.1 ha with rfl|ha
   ·have:=of_decide_eq_false h1;omega
   ·exact ZlZ h a ha
theorem Zme {n:Int}: ∀ {l:List (List (List UInt8))},Zi7 n l=false→ ∀v∈l,(v.length:Int)≤n∧ ∀a∈v,(a.length:Int)≤12
 | [],_,_,h=>absurd h List.not_mem_nil
 |s::r,h,v,hv=>by
  rw[Zi7]at h
  cases h1:decide (n<(s.length:Int))||ZgQ 12 s with
  |true=>rw[h1]at h;cases h
  |false=>
   rw[h1]at h
   rw[Bool.or_eq_false_iff]at h1
   rcases List.mem_cons.1 hv with rfl|hv
   ·exact⟨by have:=of_decide_eq_false h1.1;omega,ZlZ h1.2⟩
   ·exact Zme h v hv
theorem Zma {n:Int}: ∀ {l:List (List (List (List UInt8)))},Zi8 n l=false→ ∀x∈l,(x.length:Int)≤n∧Zi7 n x=false
 | [],_,_,h=>absurd h List.not_mem_nil
 |s::r,h,v,hv=>by
  rw[Zi8]at h
  cases h1:decide (n<(s.length:Int))||Zi7 n s with
  |true=>rw[h1]at h;cases h
  |false=>
   rw[h1]at h
   rw[Bool.or_eq_false_iff]at h1
   rcases List.mem_cons.1 hv with rfl|hv
   ·exact⟨by have:=of_decide_eq_false h1.1;omega,h1.2⟩
   ·exact Zma h v hv
end Dv
/-
 Checks of vectors and matrices.
-/
namespace Go.Proofs.YtdnodlkdndfplaaGreatDoor
open Go.Am Go.Tx Dv Go.Lib
set_option maxRecDepth 100000
theorem Zrc (v:List (List UInt8)) (hs: ∀a∈v,a.length≤9223372036854775806):PureOK Tryz.prog Zam 43 [.v (.l .s) v] (fun V=>V= .v (.i .i64) (ZiY v)):=by
 refine Zab Zaa Tryz.func43 ?_
 have hE:ZiY v=match decide ((40:Int)<(v.length:Int))with|true=>2|false=>Zfo v:=rfl
 rw[hE]
 refine And.intro (fun h=> ?_) (fun h=> ?_)
 ·have h':decide ((40:Int)<(v.length:Int))=true:=h
  rw[h']
  rfl
 ·have h':decide ((40:Int)<(v.length:Int))=false:=h
  rw[h']
  refine(ZqD v (by have:=of_decide_eq_false h';omega) hs).mono ?_
  rintro _ rfl
  rfl
theorem Zqv (v:List (List UInt8)) (hs: ∀a∈v,a.length≤9223372036854775806):PureOK Tryz.prog Zam 26 [.v (.l .s) v] (fun V=>V= .v (.i .i64) (ZiY v)):=by
 refine Zab Zaa Tryz.func26 ?_
 have hE:ZiY v=match decide ((40:Int)<(v.length:Int))with|true=>2|false=>Zfo v:=rfl
 rw[hE]
 refine And.intro (fun h=> ?_) (fun h=> ?_)
 ·have h':decide ((40:Int)<(v.length:Int))=true:=h
  rw[h']
  rfl
 ·have h':decide ((40:Int)<(v.length:Int))=false:=h
  rw[h']
  refine(ZnR v (by have:=of_decide_eq_false h';omega) hs).mono ?_
  rintro _ rfl
  rfl
set_option maxHeartbeats 4000000 in
theorem Zv3 (m:List (List (List UInt8))) (hs: ∀v∈m,∀a∈v,a.length≤9223372036854775806):PureOK Tryz.prog Zam 42 [.v (.l (.l .s)) m] (fun V=>V= .v (.i .i64) (Zlo m)):=by
 refine Zab Zaa Tryz.func42 ?_
 have hE:Zlo m=match decide ((40:Int)<(m.length:Int))with|true=>2|false=>Zq3 (wid m:Nat) m:=rfl
 rw[hE]
 refine And.intro (fun h=> ?_) (fun h=> ?_)
 ·have h':decide ((40:Int)<(m.length:Int))=true:=h
  rw[h']
  rfl
 ·have h':decide ((40:Int)<(m.length:Int))=false:=h
  rw[h']
  have hl40:m.length≤40:=by have:=of_decide_eq_false h';omega
  refine Zap Zaa rfl (fun(i:Nat)=> [(0, .v (.l (.l .s)) m),(9, .v (.l (.l .s)) m),(10, .v (.i .i64) (m.length:Int)),(11, .v (.i .i64) (i:Int))]) (fun _=> [])
   (fun i=>i≤m.length∧Zq3 (wid m:Nat) (m.drop i)=Zq3 (wid m:Nat) m) (fun i=>m.length-i) ?_ 0 ?_ ?_
  ·rintro i ⟨hi,he⟩
   refine And.intro (fun h=> ?_) (fun h=> ?_)
   ·have hlt:i<m.length:=by have h':(i:Int)<(m.length:Int):=of_decide_eq_true h;omega
    obtain⟨r,hr⟩: ∃x,m[i]=x:=⟨_,rfl⟩
    have gr:m[(i:Int).toNat]? =some r:=by rw[Int.toNat_natCast,List.getElem?_eq_getElem hlt,hr]
    have hrm:=hs r (hr▸List.getElem_mem hlt)
    obtain⟨r0,h0⟩: ∃x,m[0]'(by omega)=x:=⟨_,rfl⟩
    have g0:m[(0:Int).toNat]? =some r0:=by show m[0]? =_;rw[List.getElem?_eq_getElem (by omega),h0]
    have hw:wid m=r0.length:=by
     cases m with
     |nil=>exact absurd hlt (Nat.not_lt_zero _)
     |cons x l=>rw[←h0];rfl
    rw[List.drop_eq_getElem_cons hlt,hr,Zq3,hw]at he
    have wi:IntKind.i64.wrap ((i:Int)+1)=((i+1:Nat):Int):=Zae (by omega) (by omega)
    refine⟨r,Int.natCast_nonneg i,gr, ?_⟩
    refine⟨r0,Int.le_refl 0,g0, ?_⟩
    refine And.intro (fun h2=> ?_) (fun h2=> ?_)
    ·have h2':(!decide ((r.length:Int)=(r0.length:Int)))=true:=h2
     have hd:decide ((r.length:Int)=(r0.length:Int))=false:=by cases hd:decide ((r.length:Int)=(r0.length:Int))<;>simp[hd]at h2'⊢
     rw[hd]at he
     rw[hw]
     exact congrArg (SV.v (.i .i64)) he
    ·have h2':(!decide ((r.length:Int)=(r0.length:Int)))=false:=h2
     have hd:decide ((r.length:Int)=(r0.length:Int))=true:=by cases hd:decide ((r.length:Int)=(r0.length:Int))<;>simp[hd]at h2'⊢
     rw[hd]at he
     simp only at he
     refine(Zrc r hrm).mono ?_
     rintro _ rfl
     refine And.intro (fun h3=> ?_) (fun h3=> ?_)
     ·have h3':(!decide (ZiY r=0))=true:=h3
      have hd2:decide (ZiY r=0)=false:=by cases hd:decide (ZiY r=0)<;>simp[hd]at h3'⊢
      rw[hd2]at he
      rw[hw]
      exact congrArg (SV.v (.i .i64)) he
     ·have h3':(!decide (ZiY r=0))=false:=h3
      have hd2:decide (ZiY r=0)=true:=by cases hd:decide (ZiY r=0)<;>simp[hd]at h3'⊢
      rw[hd2]at he
      simp only at he
      refine⟨i+1,⟨hlt,by rw[hw];exact he⟩,by show m.length-(i+1)<m.length-i;omega, ?_⟩
      refine Zal rfl rfl ?_ ?_
      ·exact⟨rfl,rfl,rfl,wi.symm,trivial⟩
      ·exact trivial
   ·have hi2:i=m.length:=by have h': ¬ (i:Int)<(m.length:Int):=of_decide_eq_false h;omega
    rw[List.drop_of_length_le (by omega)]at he
    exact congrArg (SV.v (.i .i64)) he
  ·exact⟨Nat.zero_le _,rfl⟩
  ·refine Zal rfl rfl ?_ ?_
   ·exact⟨rfl,rfl,rfl,rfl,trivial⟩
   ·exact trivial
set_option maxHeartbeats 4000000 in
theorem ZkZ (m:List (List (List UInt8))) (hs: ∀v∈m,∀a∈v,a.length≤9223372036854775806):PureOK Tryz.prog Zam 14 [.v (.l (.l .s)) m] (fun V=>V= .v (.i .i64) (Zlo m)):=by
 refine Zab Zaa Tryz.func14 ?_
 have hE:Zlo m=match decide ((40:Int)<(m.length:Int))with|true=>2|false=>Zq3 (wid m:Nat) m:=rfl
 rw[hE]
 refine And.intro (fun h=> ?_) (fun h=> ?_)
 ·have h':decide ((40:Int)<(m.length:Int))=true:=h
  rw[h']
  rfl
 ·have h':decide ((40:Int)<(m.length:Int))=false:=h
  rw[h']
  have hl40:m.length≤40:=by have:=of_decide_eq_false h';omega
  refine Zap Zaa rfl (fun(i:Nat)=> [(0, .v (.l (.l .s)) m),(9, .v (.i .i64) (m.length:Int)),(10, .v (.i .i64) (i:Int))]) (fun _=> [])
   (fun i=>i≤m.length∧Zq3 (wid m:Nat) (m.drop i)=Zq3 (wid m:Nat) m) (fun i=>m.length-i) ?_ 0 ?_ ?_
  ·rintro i ⟨hi,he⟩
   refine And.intro (fun h=> ?_) (fun h=> ?_)
   ·have hlt:i<m.length:=by have h':(i:Int)<(m.length:Int):=of_decide_eq_true h;omega
    obtain⟨r,hr⟩: ∃x,m[i]=x:=⟨_,rfl⟩
    have gr:m[(i:Int).toNat]? =some r:=by rw[Int.toNat_natCast,List.getElem?_eq_getElem hlt,hr]
    have hrm:=hs r (hr▸List.getElem_mem hlt)
    obtain⟨r0,h0⟩: ∃x,m[0]'(by omega)=x:=⟨_,rfl⟩
    have g0:m[(0:Int).toNat]? =some r0:=by show m[0]? =_;rw[List.getElem?_eq_getElem (by omega),h0]
    have hw:wid m=r0.length:=by
     cases m with
     |nil=>exact absurd hlt (Nat.not_lt_zero _)
     |cons x l=>rw[←h0];rfl
    rw[List.drop_eq_getElem_cons hlt,hr,Zq3,hw]at he
    have wi:IntKind.i64.wrap ((i:Int)+1)=((i+1:Nat):Int):=Zae (by omega) (by omega)
    refine⟨r,Int.natCast_nonneg i,gr, ?_⟩
    refine⟨r0,Int.le_refl 0,g0, ?_⟩
    refine And.intro (fun h2=> ?_) (fun h2=> ?_)
    ·have h2':(!decide ((r.length:Int)=(r0.length:Int)))=true:=h2
     have hd:decide ((r.length:Int)=(r0.length:Int))=false:=by cases hd:decide ((r.length:Int)=(r0.length:Int))<;>simp[hd]at h2'⊢
     rw[hd]at he
     rw[hw]
     exact congrArg (SV.v (.i .i64)) he
    ·have h2':(!decide ((r.length:Int)=(r0.length:Int)))=false:=h2
     have hd:decide ((r.length:Int)=(r0.length:Int))=true:=by cases hd:decide ((r.length:Int)=(r0.length:Int))<;>simp[hd]at h2'⊢
     rw[hd]at he
     simp only at he
     refine⟨r,Int.natCast_nonneg i,gr, ?_⟩
     refine(Zqv r hrm).mono ?_
     rintro _ rfl
     refine And.intro (fun h3=> ?_) (fun h3=> ?_)
     ·have h3':(!decide (ZiY r=0))=true:=h3
      have hd2:decide (ZiY r=0)=false:=by cases hd:decide (ZiY r=0)<;>simp[hd]at h3'⊢
      rw[hd2]at he
      rw[hw]
      exact congrArg (SV.v (.i .i64)) he
     ·have h3':(!decide (ZiY r=0))=false:=h3
      have hd2:decide (ZiY r=0)=true:=by cases hd:decide (ZiY r=0)<;>simp[hd]at h3'⊢
      rw[hd2]at he
      simp only at he
      refine⟨i+1,⟨hlt,by rw[hw];exact he⟩,by show m.length-(i+1)<m.length-i;omega, ?_⟩
      refine Zal rfl rfl ?_ ?_
      ·exact⟨rfl,rfl,wi.symm,trivial⟩
      ·exact trivial
   ·have hi2:i=m.length:=by have h': ¬ (i:Int)<(m.length:Int):=of_decide_eq_false h;omega
    rw[List.drop_of_length_le (by omega)]at he
    exact congrArg (SV.v (.i .i64)) he
  ·exact⟨Nat.zero_le _,rfl⟩
  ·refine Zal rfl rfl ?_ ?_
   ·exact⟨rfl,rfl,rfl,trivial⟩
   ·exact trivial
end Go.Proofs.YtdnodlkdndfplaaGreatDoor
/-
 vast; loss.Exact, loss.Total.
-/
namespace Go.Proofs.YtdnodlkdndfplaaGreatDoor
open Go.Am Go.Tx Dv Go.Lib
set_option maxRecDepth 100000
theorem ZyM (s:List UInt8):PureOK Tryz.prog Zam 56 [.v .s s] (fun V=>V= .v .b (decide ((12:Int)<(s.length:Int)))):=by
 refine Zab Zaa Tryz.func56 ?_
 rfl
set_option maxHeartbeats 4000000 in
theorem ZuF (l:List (List UInt8)) (hl:l.length≤1000):PureOK Tryz.prog Zam 113 [.v (.l .s) l, .func 56 [] []] (fun V=> ∃k:Int,V= .v (.i .i64) k∧(ZgQ 12 l=true→0≤k)∧(ZgQ 12 l=false→k<0)):=by
 refine Zab Zaa Tryz.func113 ?_
 refine Zap Zaa rfl (fun(i:Nat)=> [(0, .v (.l .s) l),(1, .func 56 [] []),(7, .v (.i .i64) (l.length:Int)),(8, .v (.i .i64) (i:Int))]) (fun _=> [])
  (fun i=>i≤l.length∧ZgQ 12 (l.drop i)=ZgQ 12 l) (fun i=>l.length-i) ?_ 0 ?_ ?_
 ·rintro i ⟨hi,he⟩
  refine And.intro (fun h=> ?_) (fun h=> ?_)
  ·have hlt:i<l.length:=by have h':(i:Int)<(l.length:Int):=of_decide_eq_true h;omega
   obtain⟨s,hs⟩: ∃s,l[i]=s:=⟨_,rfl⟩
   have gs:l[(i:Int).toNat]? =some s:=by rw[Int.toNat_natCast,List.getElem?_eq_getElem hlt,hs]
   rw[List.drop_eq_getElem_cons hlt,hs,ZgQ]at he
   refine⟨s,Int.natCast_nonneg i,gs, ?_⟩
   refine(ZyM s).mono ?_
   rintro _ rfl
   refine And.intro (fun h2=> ?_) (fun h2=> ?_)
   ·have h2':decide ((12:Int)<(s.length:Int))=true:=h2
    rw[h2']at he
    refine⟨(i:Int),rfl,fun _=>Int.natCast_nonneg i,fun h3=> ?_⟩
    rw[←he]at h3
    cases h3
   ·have h2':decide ((12:Int)<(s.length:Int))=false:=h2
    rw[h2']at he
    have wi:IntKind.i64.wrap ((i:Int)+1)=((i+1:Nat):Int):=Zae (by omega) (by omega)
    refine⟨i+1,⟨hlt,he⟩,by show l.length-(i+1)<l.length-i;omega, ?_⟩
    refine Zal rfl rfl ?_ ?_
    ·exact⟨rfl,⟨rfl,trivial,trivial⟩,rfl,wi.symm,trivial⟩
    ·exact trivial
  ·have hi2:i=l.length:=by have h': ¬ (i:Int)<(l.length:Int):=of_decide_eq_false h;omega
   rw[List.drop_of_length_le (by omega)]at he
   refine⟨-1,rfl,fun h3=> ?_,fun _=>by decide⟩
   rw[←he]at h3
   cases h3
 ·exact⟨Nat.zero_le _,rfl⟩
 ·refine Zal rfl rfl ?_ ?_
  ·exact⟨rfl,⟨rfl,trivial,trivial⟩,rfl,rfl,trivial⟩
  ·exact trivial
theorem Zn3 (l:List (List UInt8)) (hl:l.length≤1000):PureOK Tryz.prog Zam 55 [.v (.l .s) l, .func 56 [] []] (fun V=>V= .v .b (ZgQ 12 l)):=by
 refine Zab Zaa Tryz.func55 ?_
 refine(ZuF l hl).mono ?_
 rintro _ ⟨k,rfl,h1,h2⟩
 refine congrArg (SV.v .b) ?_
 cases hb:ZgQ 12 l with
 |true=>exact decide_eq_true (h1 hb)
 |false=>exact decide_eq_false (by have:=h2 hb;omega)
set_option maxHeartbeats 8000000 in
theorem ZzX (n:Int) (ms:List (List (List (List UInt8)))) (hl:ms.length≤1000) (hs: ∀x∈ms,(x.length:Int)≤n→x.length≤1000∧ ∀v∈x,(v.length:Int)≤n→v.length≤1000):PureOK Tryz.prog Zam 17 [.v (.i .i64) n, .v (.l (.l (.l .s))) ms] (fun V=>V= .v .b (Zi8 n ms)):=by
 refine Zab Zaa Tryz.func17 ?_
 refine Zap Zaa rfl (fun(i:Nat)=> [(0, .v (.i .i64) n),(9, .v (.l (.l (.l .s))) ms),(10, .v (.i .i64) (ms.length:Int)),(11, .v (.i .i64) (i:Int))]) (fun _=> [])
  (fun i=>i≤ms.length∧Zi8 n (ms.drop i)=Zi8 n ms) (fun i=>ms.length-i) ?_ 0 ?_ ?_
 ·rintro i ⟨hi,he⟩
  refine And.intro (fun h=> ?_) (fun h=> ?_)
  ·have hlt:i<ms.length:=by have h':(i:Int)<(ms.length:Int):=of_decide_eq_true h;omega
   obtain⟨x,hx⟩: ∃x,ms[i]=x:=⟨_,rfl⟩
   have gx:ms[(i:Int).toNat]? =some x:=by rw[Int.toNat_natCast,List.getElem?_eq_getElem hlt,hx]
   have hxs:=hs x (hx▸List.getElem_mem hlt)
   rw[List.drop_eq_getElem_cons hlt,hx,Zi8]at he
   have wi:IntKind.i64.wrap ((i:Int)+1)=((i+1:Nat):Int):=Zae (by omega) (by omega)
   refine⟨x,Int.natCast_nonneg i,gx, ?_⟩
   refine And.intro (fun h2=> ?_) (fun h2=> ?_)
   ·have h2':decide (n<(x.length:Int))=true:=h2
    rw[h2',Bool.true_or]at he
    exact congrArg (SV.v .b) he
   ·have h2':decide (n<(x.length:Int))=false:=h2
    rw[h2',Bool.false_or]at he
    obtain⟨hx1,hx2⟩:=hxs (by have:=of_decide_eq_false h2';omega)
    refine Zap Zaa rfl (fun(j:Nat)=> [(0, .v (.i .i64) n),(9, .v (.l (.l (.l .s))) ms),(10, .v (.i .i64) (ms.length:Int)),(11, .v (.i .i64) (i:Int)),(19, .v (.l (.l .s)) x),(20, .v (.i .i64) (x.length:Int)),(21, .v (.i .i64) (j:Int))]) (fun _=> [])
     (fun j=>j≤x.length∧Zi7 n (x.drop j)=Zi7 n x) (fun j=>x.length-j) ?_ 0 ?_ ?_
    ·rintro j ⟨hj,hj2⟩
     refine And.intro (fun h=> ?_) (fun h=> ?_)
     ·have hltj:j<x.length:=by have h':(j:Int)<(x.length:Int):=of_decide_eq_true h;omega
      obtain⟨v,hv⟩: ∃v,x[j]=v:=⟨_,rfl⟩
      have gv:x[(j:Int).toNat]? =some v:=by rw[Int.toNat_natCast,List.getElem?_eq_getElem hltj,hv]
      have hvs:=hx2 v (hv▸List.getElem_mem hltj)
      rw[List.drop_eq_getElem_cons hltj,hv,Zi7]at hj2
      have wj:IntKind.i64.wrap ((j:Int)+1)=((j+1:Nat):Int):=Zae (by omega) (by omega)
      refine⟨v,Int.natCast_nonneg j,gv, ?_⟩
      cases b1:decide (n<(v.length:Int))with
      |true=>
       rw[b1,Bool.true_or]at hj2
       rw[←hj2]at he
       refine Zat ?_
       iterate 5 refine Zah ?_
       refine ZaH b1 ?_
       refine ZaH b1 ?_
       refine Zbb b1 ?_
       refine Zas ?_
       refine brT b1 ?_
       exact congrArg (SV.v .b) he
      |false=>
       have hcon:=Zn3 v (hvs (by have:=of_decide_eq_false b1;omega))
       rw[b1,Bool.false_or]at hj2
       cases b2:ZgQ 12 v with
       |true=>
        rw[b2]at hj2 hcon
        rw[←hj2]at he
        refine Zat ?_
        iterate 5 refine Zah ?_
        refine Zaf b1 ?_
        refine ZaL rfl rfl rfl b1 ((hcon).mono ?_)
        rintro _ rfl
        refine Zac rfl rfl ?_
        refine ZaS b1 ?_
        refine Zas ?_
        refine And.intro (fun _=> ?_) (fun h=>by cases h)
        exact congrArg (SV.v .b) he
       |false=>
        rw[b2]at hj2 hcon
        refine Zat ?_
        iterate 5 refine Zah ?_
        refine Zaf b1 ?_
        refine ZaL rfl rfl rfl b1 ((hcon).mono ?_)
        rintro _ rfl
        refine Zac rfl rfl ?_
        refine ZaS b1 ?_
        refine Zas ?_
        refine And.intro (fun h=>by cases h) (fun _=> ?_)
        refine⟨j+1,⟨hltj,hj2⟩,by show x.length-(j+1)<x.length-j;omega, ?_⟩
        refine Zal rfl rfl ?_ ?_
        ·exact⟨rfl,rfl,rfl,rfl,rfl,rfl,wj.symm,trivial⟩
        ·exact trivial
     ·have hj3:j=x.length:=by have h': ¬ (j:Int)<(x.length:Int):=of_decide_eq_false h;omega
      rw[List.drop_of_length_le (by omega),Zi7]at hj2
      rw[←hj2]at he
      refine⟨i+1,⟨hlt,he⟩,by show ms.length-(i+1)<ms.length-i;omega, ?_⟩
      refine Zal rfl rfl ?_ ?_
      ·exact⟨rfl,rfl,rfl,wi.symm,trivial⟩
      ·exact trivial
    ·exact⟨Nat.zero_le _,rfl⟩
    ·refine Zal rfl rfl ?_ ?_
     ·exact⟨rfl,rfl,rfl,rfl,rfl,rfl,rfl,trivial⟩
     ·exact trivial
  ·have hi2:i=ms.length:=by have h': ¬ (i:Int)<(ms.length:Int):=of_decide_eq_false h;omega
   rw[List.drop_of_length_le (by omega)]at he
   exact congrArg (SV.v .b) he
 ·exact⟨Nat.zero_le _,rfl⟩
 ·refine Zal rfl rfl ?_ ?_
  ·exact⟨rfl,rfl,rfl,rfl,trivial⟩
  ·exact trivial
end Go.Proofs.YtdnodlkdndfplaaGreatDoor
/-
 Lists of rational numbers: ParseAll, Dot; first; vast.
-/
namespace Go.Proofs.YtdnodlkdndfplaaGreatDoor
open Go.Am Go.Tx Dv Go.Lib
set_option maxRecDepth 100000
theorem Zm9 (q:Rat):PureOK Tryz.prog Zam 123 [QR q] (fun V=>V= .v (.i .i64) q.num.sign):=by
 refine Zab Zaa Tryz.func123 ?_
 refine And.intro rfl ?_
 refine(ZwM q.num).mono ?_
 rintro _ rfl
 rfl
set_option maxHeartbeats 4000000 in
theorem Zre (ps:List Rat) (hl:ps.length≤1000000000) (hf: ∀p∈ps,Zri p=true):PureOK Tryz.prog Zam 78 [.v (.l .s) (ps.map Zbj)] (fun V=>V=QL ps):=by
 refine Zab Zaa Tryz.func78 ?_
 have hll:(ps.map Zbj).length=ps.length:=List.length_map _
 have hg: ∀i (h:i<ps.length),(ps.map Zbj)[i]? =some (Zbj ps[i]):=fun i h=>by
  rw[List.getElem?_map,List.getElem?_eq_getElem h]
  rfl
 obtain⟨l,hl0⟩: ∃l,ps.map Zbj=l:=⟨_,rfl⟩
 rw[hl0]at hll hg⊢
 refine And.intro (show 0≤(l.length:Int)∧(l.length:Int)≤(l.length:Int)∧(64:Int)*(l.length:Int)≤281474976710656∧(l.length:Int)<9223372036854775808 by omega) ?_
 refine Zap Zaa rfl (fun(t:Nat×List qct.D)=> [(3, .ref 0 0 ps.length none),(9, .v (.l .s) l),(10, .v (.i .i64) (l.length:Int)),(11, .v (.i .i64) (t.1:Int))]) (fun t=> [.row qct t.2 true])
  (fun t=>t.1≤ps.length∧t.2.length=ps.length∧t.2.take t.1=(ps.map ZeU).take t.1) (fun t=>ps.length-t.1) ?_ (0,List.replicate ps.length qct.z) ?_ ?_
 ·rintro⟨i,out⟩ ⟨hi,hlen,hval⟩
  simp only at hi hlen hval
  refine And.intro (fun h=> ?_) (fun h=> ?_)
  ·have hlt:i<ps.length:=by have h':(i:Int)<(l.length:Int):=of_decide_eq_true h;omega
   have gx:l[(i:Int).toNat]? =some (Zbj ps[i]):=by rw[Int.toNat_natCast];exact hg i hlt
   have hfx:=hf ps[i] (List.getElem_mem hlt)
   have ho:i<out.length:=by omega
   have wi:IntKind.i64.wrap ((i:Int)+1)=((i+1:Nat):Int):=Zae (by omega) (by omega)
   have hq:=ZAE (ps:=ps) hlt
   obtain⟨x,hx⟩: ∃x,ps[i]=x:=⟨_,rfl⟩
   rw[hx]at gx hfx hq
   refine⟨Zbj x,Int.natCast_nonneg i,gx, ?_⟩
   refine(ZxB x hfx).mono ?_
   rintro _ rfl
   refine And.intro ⟨Int.natCast_nonneg i,by show(i:Int)<((ps.length:Nat):Int);omega⟩ ?_
   refine Exists.intro (out[i]) (And.intro (by simp) ?_)
   refine⟨(i+1,out.set i (ZeU x)),⟨hlt,by show(out.set _ _).length=_;simpa using hlen, ?_⟩,by show ps.length-(i+1)<ps.length-i;omega, ?_⟩
   ·show(out.set i (ZeU x)).take (i+1)=(ps.map ZeU).take (i+1)
    have h1:(out.set i (ZeU x)).take (i+1)=out.take i++ [ZeU x]:=by
     rw[List.take_succ_eq_append_getElem (by simpa using ho),List.getElem_set_self,List.take_set_of_le (Nat.le_refl _)]
    have h2:(ps.map ZeU).take (i+1)=(ps.map ZeU).take i++ [ZeU x]:=by
     have hm:i<(ps.map ZeU).length:=by simpa using hlt
     rw[List.take_succ_eq_append_getElem hm]
     have:(ps.map ZeU)[i]=ZeU x:=by rw[List.getElem?_eq_getElem hm]at hq;exact Option.some.inj hq
     rw[this]
    rw[h1,h2,hval]
   ·have er:out.set i (ZeU x)=out.set (0+(i:Int).toNat) (ZeU x):=by rw[Int.toNat_natCast,Nat.zero_add]
    refine Zal rfl rfl ?_ ?_
    ·exact⟨⟨rfl,rfl,rfl⟩,rfl,rfl,wi.symm,trivial⟩
    ·exact⟨⟨er,fun _=>rfl⟩,trivial⟩
  ·have hi2:i=ps.length:=by have h': ¬ (i:Int)<(l.length:Int):=of_decide_eq_false h;omega
   have ho:out=ps.map ZeU:=by
    rw[hi2,List.take_of_length_le (by omega),List.take_of_length_le (by simp)]at hval
    exact hval
   refine⟨by show 0+ps.length≤out.length;omega, ?_⟩
   show SV.v (.l qct) (sub out 0 ps.length)=SV.v (.l qct) (ps.map ZeU)
   rw[ho,sub,List.drop_zero,List.take_of_length_le (by simp)]
 ·exact⟨Nat.zero_le _,by simp,by simp⟩
 ·have e1:ps.length=((l.length:Nat):Int).toNat:=by omega
  refine Zal rfl rfl ?_ ?_
  ·exact⟨⟨rfl,e1,e1⟩,rfl,rfl,rfl,trivial⟩
  ·exact⟨⟨by rw[e1];rfl,fun _=>rfl⟩,trivial⟩
end Go.Proofs.YtdnodlkdndfplaaGreatDoor
/-
 lin.Width.
-/
namespace Go.Proofs.YtdnodlkdndfplaaGreatDoor
open Go.Am Go.Tx Dv Go.Lib
set_option maxRecDepth 100000
def Zm3 {α:Type}:List (List α)→Nat
 | []=>0
 |r::_=>r.length
theorem Zp6 (m:List (List qct.D)):PureOK Tryz.prog Zam 117 [.v (.l (.l qct)) m] (fun V=>V= .v (.i .i64) ((Zm3 m:Nat):Int)):=by
 refine Zab Zaa Tryz.func117 ?_
 refine And.intro (fun h=> ?_) (fun h=> ?_)
 ·have h':decide ((m.length:Int)=0)=true:=h
  have h0:m.length=0:=by have:=of_decide_eq_true h';omega
  rw[List.length_eq_zero_iff.1 h0]
  rfl
 ·have h':decide ((m.length:Int)=0)=false:=h
  cases m with
  |nil=>cases h'
  |cons r m=>exact⟨r,Int.le_refl 0,rfl,rfl⟩
end Go.Proofs.YtdnodlkdndfplaaGreatDoor
/-
 Texts of numbers, of rows, of matrices; the numbers of a matrix.
-/
namespace Go.Proofs.YtdnodlkdndfplaaGreatDoor
open Go.Am Go.Tx Dv Go.Lib
set_option maxRecDepth 100000
theorem ZvD {α:Type} {l:List α} {n:Nat} (h:l.length=n):sub l 0 n=l:=by
 subst h
 rw[sub,List.drop_zero,List.take_of_length_le (Nat.le_refl _)]
def Zsq (pss:List (List Rat)):List (List qct.D):=pss.map fun ps=>ps.map ZeU
def ZbV (pss:List (List Rat)):List (List (List UInt8)):=pss.map fun ps=>ps.map Zbj
theorem Zxz {pss:List (List Rat)} {i:Nat} (h:i<pss.length):(Zsq pss)[i]? =some (pss[i].map ZeU):=by
 rw[Zsq,List.getElem?_map,List.getElem?_eq_getElem h]
 rfl
theorem Zoc {pss:List (List Rat)} {i:Nat} (h:i<pss.length):(ZbV pss)[i]? =some (pss[i].map Zbj):=by
 rw[ZbV,List.getElem?_map,List.getElem?_eq_getElem h]
 rfl
theorem ZrJ {α β:Type} {g:α→β} {ps:List α} {i:Nat} (hlt:i<ps.length):(ps.take i).map g++ [g ps[i]]=(ps.take (i+1)).map g:=by
 rw[List.take_succ_eq_append_getElem hlt,List.map_append]
 rfl
end Go.Proofs.YtdnodlkdndfplaaGreatDoor
/-
 Places behind a heap of any length; function values called in regions with light operations.
-/
namespace Go.Tx
open Go.Am
section
variable {P : Program} {h : Hints} {T : TypeId → TI} {hp : List SM} {tm : TM}
theorem Zgu {α:Type} {a:List α} {x:α} {r:List α}:nth (a++x::r) a.length=some x:=by
 rw[ZaG,List.getElem?_append_right (Nat.le_refl _),Nat.sub_self];rfl
theorem Zw4 {α:Type} {a:List α} {x y:α} {r:List α}:(a++x::r).set a.length y=a++y::r:=by
 rw[List.set_append_right _ _ (Nat.le_refl _),Nat.sub_self];rfl
variable {N : Nat} {ls : List Nat} {o : Oper} {l : List Oper} {i : Nat} {ks : List (Nat × Nat × Bool)} {kk : TM → List SM → Prop}
end
end Go.Tx

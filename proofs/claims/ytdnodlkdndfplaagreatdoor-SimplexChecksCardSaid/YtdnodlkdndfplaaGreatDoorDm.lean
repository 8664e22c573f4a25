/-
 Vectors and matrices as texts, in plain Lean.
-/
import Derived.Test.YtdnodlkdndfplaaGreatDoorQA
set_option linter.constructorNameAsVariable false
set_option linter.unusedSimpArgs false
set_option linter.unusedVariables false
namespace Dv
open Go Go.Lib
def Zcn (v:List (List UInt8)):Int:=match decide ((40:Int)<(v.length:Int))with
 |true=>2
 |false=>Zf7 v
def ZpH (w:Int):List (List (List UInt8))→Int
 | []=>0
 |r::l=>match decide ((r.length:Int)=w)with
  |false=>3
  |true=>match decide (Zcn r=0)with
   |true=>ZpH w l
   |false=>Zcn r
def wid (m:List (List (List UInt8))):Nat:=match m with
 | []=>0
 |r::_=>r.length
def Zm0 (m:List (List (List UInt8))):Int:=match decide ((40:Int)<(m.length:Int))with
 |true=>2
 |false=>ZpH (wid m:Nat) m
def Zuc (a b:Int):Int:=match decide (a=0)with
 |true=>b
 |false=>a
def Zm9:List Int→Int
 | []=>0
 |x::r=>match decide (x=0)with
  |true=>Zm9 r
  |false=>x
theorem Zqa (a b:Int):Zm9 [a,b]=Zuc a b:=by
 simp only[Zm9,Zuc]
 cases decide (a=0)with
 |true=>
  simp only
  cases hb:decide (b=0)with
  |true=>simp only;exact(of_decide_eq_true hb).symm
  |false=>rfl
 |false=>rfl
end Dv
/-
 Checks of vectors and matrices.
-/
namespace Go.Proofs.YtdnodlkdndfplaaGreatDoor
open Go.Am Go.Tx Dv Go.Lib
set_option maxRecDepth 100000
theorem ZhH (v:List (List UInt8)) (hs: ∀a∈v,a.length≤9223372036854775806):PureOK Tryz.prog Zau 43 [.v (.l .s) v] (fun V=>V= .v (.i .i64) (Zcn v)):=by
 refine Zaj Zao Tryz.func43 ?_
 have hE:Zcn v=match decide ((40:Int)<(v.length:Int))with|true=>2|false=>Zf7 v:=rfl
 rw[hE]
 refine And.intro (fun h=> ?_) (fun h=> ?_)
 ·have h':decide ((40:Int)<(v.length:Int))=true:=h
  rw[h']
  rfl
 ·have h':decide ((40:Int)<(v.length:Int))=false:=h
  rw[h']
  refine(ZmE v (by have:=of_decide_eq_false h';omega) hs).mono ?_
  rintro _ rfl
  rfl
theorem Zfi (v:List (List UInt8)) (hs: ∀a∈v,a.length≤9223372036854775806):PureOK Tryz.prog Zau 26 [.v (.l .s) v] (fun V=>V= .v (.i .i64) (Zcn v)):=by
 refine Zaj Zao Tryz.func26 ?_
 have hE:Zcn v=match decide ((40:Int)<(v.length:Int))with|true=>2|false=>Zf7 v:=rfl
 rw[hE]
 refine And.intro (fun h=> ?_) (fun h=> ?_)
 ·have h':decide ((40:Int)<(v.length:Int))=true:=h
  rw[h']
  rfl
 ·have h':decide ((40:Int)<(v.length:Int))=false:=h
  rw[h']
  refine(Zk7 v (by have:=of_decide_eq_false h';omega) hs).mono ?_
  rintro _ rfl
  rfl
set_option maxHeartbeats 4000000 in
theorem ZpK (m:List (List (List UInt8))) (hs: ∀v∈m,∀a∈v,a.length≤9223372036854775806):PureOK Tryz.prog Zau 42 [.v (.l (.l .s)) m] (fun V=>V= .v (.i .i64) (Zm0 m)):=by
 refine Zaj Zao Tryz.func42 ?_
 have hE:Zm0 m=match decide ((40:Int)<(m.length:Int))with|true=>2|false=>ZpH (wid m:Nat) m:=rfl
 rw[hE]
 refine And.intro (fun h=> ?_) (fun h=> ?_)
 ·have h':decide ((40:Int)<(m.length:Int))=true:=h
  rw[h']
  rfl
 ·have h':decide ((40:Int)<(m.length:Int))=false:=h
  rw[h']
  have hl40:m.length≤40:=by have:=of_decide_eq_false h';omega
  refine ZaC Zao rfl (fun(i:Nat)=> [(0, .v (.l (.l .s)) m),(9, .v (.l (.l .s)) m),(10, .v (.i .i64) (m.length:Int)),(11, .v (.i .i64) (i:Int))]) (fun _=> [])
   (fun i=>i≤m.length∧ZpH (wid m:Nat) (m.drop i)=ZpH (wid m:Nat) m) (fun i=>m.length-i) ?_ 0 ?_ ?_
  ·rintro i ⟨hi,he⟩
   refine And.intro (fun h=> ?_) (fun h=> ?_)
   ·have hlt:i<m.length:=by have h':(i:Int)<(m.length:Int):=of_decide_eq_true h;omega
    obtain⟨r,hr⟩: ∃x,m[i]=x:=⟨_,rfl⟩
    have gr:m[(i:Int).toNat]? =some r:=by rw[Int.toNat_natCast,List.getElem?_eq_getElem hlt,hr]
    have hrm:=hs r (hr▸List.getElem_mem hlt)
    obtain⟨r0,h0⟩: ∃x,m[0]'(by omega)=x:=⟨_,rfl⟩
    have g0:m[(0:Int).toNat]? =some r0:=by show m[0]? =_;rw[List.getElem?_eq_getElem (by omega),h0]
    have hw:wid m=r0.length:=by
     cases m with
     |nil=>exact absurd hlt (Nat.not_lt_zero _)
     |cons x l=>rw[←h0];rfl
    rw[List.drop_eq_getElem_cons hlt,hr,ZpH,hw]at he
    have wi:IntKind.i64.wrap ((i:Int)+1)=((i+1:Nat):Int):=Zan (by omega) (by omega)
    refine⟨r,Int.natCast_nonneg i,gr, ?_⟩
    refine⟨r0,Int.le_refl 0,g0, ?_⟩
    refine And.intro (fun h2=> ?_) (fun h2=> ?_)
    ·have h2':(!decide ((r.length:Int)=(r0.length:Int)))=true:=h2
     have hd:decide ((r.length:Int)=(r0.length:Int))=false:=by cases hd:decide ((r.length:Int)=(r0.length:Int))<;>simp[hd]at h2'⊢
     rw[hd]at he
     rw[hw]
     exact congrArg (SV.v (.i .i64)) he
    ·have h2':(!decide ((r.length:Int)=(r0.length:Int)))=false:=h2
     have hd:decide ((r.length:Int)=(r0.length:Int))=true:=by cases hd:decide ((r.length:Int)=(r0.length:Int))<;>simp[hd]at h2'⊢
     rw[hd]at he
     simp only at he
     refine(ZhH r hrm).mono ?_
     rintro _ rfl
     refine And.intro (fun h3=> ?_) (fun h3=> ?_)
     ·have h3':(!decide (Zcn r=0))=true:=h3
      have hd2:decide (Zcn r=0)=false:=by cases hd:decide (Zcn r=0)<;>simp[hd]at h3'⊢
      rw[hd2]at he
      rw[hw]
      exact congrArg (SV.v (.i .i64)) he
     ·have h3':(!decide (Zcn r=0))=false:=h3
      have hd2:decide (Zcn r=0)=true:=by cases hd:decide (Zcn r=0)<;>simp[hd]at h3'⊢
      rw[hd2]at he
      simp only at he
      refine⟨i+1,⟨hlt,by rw[hw];exact he⟩,by show m.length-(i+1)<m.length-i;omega, ?_⟩
      refine Zaq rfl rfl ?_ ?_
      ·exact⟨rfl,rfl,rfl,wi.symm,trivial⟩
      ·exact trivial
   ·have hi2:i=m.length:=by have h': ¬ (i:Int)<(m.length:Int):=of_decide_eq_false h;omega
    rw[List.drop_of_length_le (by omega)]at he
    exact congrArg (SV.v (.i .i64)) he
  ·exact⟨Nat.zero_le _,rfl⟩
  ·refine Zaq rfl rfl ?_ ?_
   ·exact⟨rfl,rfl,rfl,rfl,trivial⟩
   ·exact trivial
set_option maxHeartbeats 4000000 in
theorem ZiC (m:List (List (List UInt8))) (hs: ∀v∈m,∀a∈v,a.length≤9223372036854775806):PureOK Tryz.prog Zau 14 [.v (.l (.l .s)) m] (fun V=>V= .v (.i .i64) (Zm0 m)):=by
 refine Zaj Zao Tryz.func14 ?_
 have hE:Zm0 m=match decide ((40:Int)<(m.length:Int))with|true=>2|false=>ZpH (wid m:Nat) m:=rfl
 rw[hE]
 refine And.intro (fun h=> ?_) (fun h=> ?_)
 ·have h':decide ((40:Int)<(m.length:Int))=true:=h
  rw[h']
  rfl
 ·have h':decide ((40:Int)<(m.length:Int))=false:=h
  rw[h']
  have hl40:m.length≤40:=by have:=of_decide_eq_false h';omega
  refine ZaC Zao rfl (fun(i:Nat)=> [(0, .v (.l (.l .s)) m),(9, .v (.i .i64) (m.length:Int)),(10, .v (.i .i64) (i:Int))]) (fun _=> [])
   (fun i=>i≤m.length∧ZpH (wid m:Nat) (m.drop i)=ZpH (wid m:Nat) m) (fun i=>m.length-i) ?_ 0 ?_ ?_
  ·rintro i ⟨hi,he⟩
   refine And.intro (fun h=> ?_) (fun h=> ?_)
   ·have hlt:i<m.length:=by have h':(i:Int)<(m.length:Int):=of_decide_eq_true h;omega
    obtain⟨r,hr⟩: ∃x,m[i]=x:=⟨_,rfl⟩
    have gr:m[(i:Int).toNat]? =some r:=by rw[Int.toNat_natCast,List.getElem?_eq_getElem hlt,hr]
    have hrm:=hs r (hr▸List.getElem_mem hlt)
    obtain⟨r0,h0⟩: ∃x,m[0]'(by omega)=x:=⟨_,rfl⟩
    have g0:m[(0:Int).toNat]? =some r0:=by show m[0]? =_;rw[List.getElem?_eq_getElem (by omega),h0]
    have hw:wid m=r0.length:=by
     cases m with
     |nil=>exact absurd hlt (Nat.not_lt_zero _)
     |cons x l=>rw[←h0];rfl
    rw[List.drop_eq_getElem_cons hlt,hr,ZpH,hw]at he
    have wi:IntKind.i64.wrap ((i:Int)+1)=((i+1:Nat):Int):=Zan (by omega) (by omega)
    refine⟨r,Int.natCast_nonneg i,gr, ?_⟩
    refine⟨r0,Int.le_refl 0,g0, ?_⟩
    refine And.intro (fun h2=> ?_) (fun h2=> ?_)
    ·have h2':(!decide ((r.length:Int)=(r0.length:Int)))=true:=h2
     have hd:decide ((r.length:Int)=(r0.length:Int))=false:=by cases hd:decide ((r.length:Int)=(r0.length:Int))<;>simp[hd]at h2'⊢
     rw[hd]at he
     rw[hw]
     exact congrArg (SV.v (.i .i64)) he
    ·have h2':(!decide ((r.length:Int)=(r0.length:Int)))=false:=h2
     have hd:decide ((r.length:Int)=(r0.length:Int))=true:=by cases hd:decide ((r.length:Int)=(r0.length:Int))<;>simp[hd]at h2'⊢
     rw[hd]at he
     simp only at he
     refine⟨r,Int.natCast_nonneg i,gr, ?_⟩
     refine(Zfi r hrm).mono ?_
     rintro _ rfl
     refine And.intro (fun h3=> ?_) (fun h3=> ?_)
     ·have h3':(!decide (Zcn r=0))=true:=h3
      have hd2:decide (Zcn r=0)=false:=by cases hd:decide (Zcn r=0)<;>simp[hd]at h3'⊢
      rw[hd2]at he
      rw[hw]
      exact congrArg (SV.v (.i .i64)) he
     ·have h3':(!decide (Zcn r=0))=false:=h3
      have hd2:decide (Zcn r=0)=true:=by cases hd:decide (Zcn r=0)<;>simp[hd]at h3'⊢
      rw[hd2]at he
      simp only at he
      refine⟨i+1,⟨hlt,by rw[hw];exact he⟩,by show m.length-(i+1)<m.length-i;omega, ?_⟩
      refine Zaq rfl rfl ?_ ?_
      ·exact⟨rfl,rfl,wi.symm,trivial⟩
      ·exact trivial
   ·have hi2:i=m.length:=by have h': ¬ (i:Int)<(m.length:Int):=of_decide_eq_false h;omega
    rw[List.drop_of_length_le (by omega)]at he
    exact congrArg (SV.v (.i .i64)) he
  ·exact⟨Nat.zero_le _,rfl⟩
  ·refine Zaq rfl rfl ?_ ?_
   ·exact⟨rfl,rfl,rfl,trivial⟩
   ·exact trivial
end Go.Proofs.YtdnodlkdndfplaaGreatDoor
/-
 vast; loss.Exact, loss.Total.
-/
namespace Go.Proofs.YtdnodlkdndfplaaGreatDoor
open Go.Am Go.Tx Dv Go.Lib
set_option maxRecDepth 100000
end Go.Proofs.YtdnodlkdndfplaaGreatDoor
/-
 Lists of rational numbers: ParseAll, Dot; first; vast.
-/
namespace Go.Proofs.YtdnodlkdndfplaaGreatDoor
open Go.Am Go.Tx Dv Go.Lib
set_option maxRecDepth 100000
set_option maxHeartbeats 4000000 in
theorem Zqd (l:List Int) (hl:l.length≤1000000):PureOK Tryz.prog Zau 13 [.v (.l (.i .i64)) l] (fun V=>V= .v (.i .i64) (Zm9 l)):=by
 refine Zaj Zao Tryz.func13 ?_
 refine ZaC Zao rfl (fun(i:Nat)=> [(5, .v (.l (.i .i64)) l),(6, .v (.i .i64) (l.length:Int)),(7, .v (.i .i64) (i:Int))]) (fun _=> [])
  (fun i=>i≤l.length∧Zm9 (l.drop i)=Zm9 l) (fun i=>l.length-i) ?_ 0 ?_ ?_
 ·rintro i ⟨hi,he⟩
  refine And.intro (fun h=> ?_) (fun h=> ?_)
  ·have hlt:i<l.length:=by have h':(i:Int)<(l.length:Int):=of_decide_eq_true h;omega
   obtain⟨x,hx⟩: ∃x,l[i]=x:=⟨_,rfl⟩
   have gx:l[(i:Int).toNat]? =some x:=by rw[Int.toNat_natCast,List.getElem?_eq_getElem hlt,hx]
   rw[List.drop_eq_getElem_cons hlt,hx,Zm9]at he
   refine⟨x,Int.natCast_nonneg i,gx, ?_⟩
   refine And.intro (fun h2=> ?_) (fun h2=> ?_)
   ·have h2':(!decide (x=0))=true:=h2
    have hd:decide (x=0)=false:=by cases hd:decide (x=0)<;>simp[hd]at h2'⊢
    rw[hd]at he
    exact congrArg (SV.v (.i .i64)) he
   ·have h2':(!decide (x=0))=false:=h2
    have hd:decide (x=0)=true:=by cases hd:decide (x=0)<;>simp[hd]at h2'⊢
    rw[hd]at he
    have wi:IntKind.i64.wrap ((i:Int)+1)=((i+1:Nat):Int):=Zan (by omega) (by omega)
    refine⟨i+1,⟨hlt,he⟩,by show l.length-(i+1)<l.length-i;omega, ?_⟩
    refine Zaq rfl rfl ?_ ?_
    ·exact⟨rfl,rfl,wi.symm,trivial⟩
    ·exact trivial
  ·have hi2:i=l.length:=by have h': ¬ (i:Int)<(l.length:Int):=of_decide_eq_false h;omega
   rw[List.drop_of_length_le (by omega)]at he
   exact congrArg (SV.v (.i .i64)) he
 ·exact⟨Nat.zero_le _,rfl⟩
 ·refine Zaq rfl rfl ?_ ?_
  ·exact⟨rfl,rfl,rfl,trivial⟩
  ·exact trivial
end Go.Proofs.YtdnodlkdndfplaaGreatDoor
/-
 What is not vast.
-/
namespace Go.Proofs.YtdnodlkdndfplaaGreatDoor
open Go.Am Go.Tx Dv Go.Lib
set_option maxRecDepth 100000
end Go.Proofs.YtdnodlkdndfplaaGreatDoor

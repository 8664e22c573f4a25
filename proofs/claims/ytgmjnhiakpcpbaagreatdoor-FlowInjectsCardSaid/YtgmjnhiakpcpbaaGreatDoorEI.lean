/-
 slices.Equal of lists of numbers.
-/
import Derived.Test.YtgmjnhiakpcpbaaGreatDoorU1
set_option linter.constructorNameAsVariable false
set_option linter.unusedSimpArgs false
set_option linter.unusedVariables false
namespace Go.Proofs.YtgmjnhiakpcpbaaGreatDoor
open Go.Am Go.Tx Ne
set_option maxRecDepth 100000
set_option maxHeartbeats 8000000 in
theorem Zrp (a b:List Int) (hl:a.length≤1000):PureOK Tryz.prog ZaO 17 [.v (.l (.i .i64)) a, .v (.l (.i .i64)) b] (fun V=>V= .v .b (decide (a=b))):=by
 refine Zaz Zaw Tryz.func17 ?_
 cases h0:decide ((a.length:Int)=(b.length:Int))with
 |false=>
  have hc:(!decide ((a.length:Int)=(b.length:Int)))=true:=by rw[h0];rfl
  have hne:a≠b:=fun e=>of_decide_eq_false h0 (by rw[e])
  refine Zae ?_
  refine Zab ?_
  refine Zad ?_
  refine Zae ?_
  iterate 5 refine Zab ?_
  refine Zad ?_
  refine brT hc ?_
  refine Zae ?_
  refine Zab ?_
  refine Zad ?_
  exact congrArg (fun x=>SV.v .b x) (decide_eq_false hne).symm
 |true=>
  have hc:(!decide ((a.length:Int)=(b.length:Int)))=false:=by rw[h0];rfl
  have hlen:a.length=b.length:=by have:=of_decide_eq_true h0;omega
  refine Zae ?_
  refine Zab ?_
  refine Zad ?_
  refine Zae ?_
  iterate 5 refine Zab ?_
  refine Zad ?_
  refine brF hc ?_
  refine Zae ?_
  iterate 3 refine Zab ?_
  refine Zad ?_
  refine ZaH Zaw rfl (fun(i:Nat)=> [(0, .v (.l (.i .i64)) a),(1, .v (.l (.i .i64)) b),(12,nt a.length),(13,nt i)]) (fun _=> []) (fun i=>i≤a.length∧a.take i=b.take i) (fun i=>a.length-i) ?_ 0 ⟨Nat.zero_le _,rfl⟩ (Zah ⟨rfl,rfl,rfl,rfl,trivial⟩)
  rintro i ⟨hi,he⟩
  cases h1:decide ((i:Int)<(a.length:Int))with
  |false=>
   have e:i=a.length:=by have:=of_decide_eq_false h1;omega
   have hab:a=b:=by
    rw[e,List.take_length,hlen,List.take_length]at he
    exact he
   refine Zae ?_
   refine Zab ?_
   refine Zad ?_
   refine brF h1 ?_
   refine Zae ?_
   refine Zab ?_
   refine Zad ?_
   exact congrArg (fun x=>SV.v .b x) (decide_eq_true hab).symm
  |true=>
   have hlt:i<a.length:=by have:=of_decide_eq_true h1;omega
   have hlb:i<b.length:=by omega
   have ga:a[(i:Int).toNat]? =some a[i]:=by rw[Int.toNat_natCast];exact List.getElem?_eq_getElem hlt
   have gb:b[(i:Int).toNat]? =some b[i]:=by rw[Int.toNat_natCast];exact List.getElem?_eq_getElem hlb
   have ta:a.take (i+1)=a.take i++ [a[i]]:=by rw[List.take_add_one,List.getElem?_eq_getElem hlt];rfl
   have tb:b.take (i+1)=b.take i++ [b[i]]:=by rw[List.take_add_one,List.getElem?_eq_getElem hlb];rfl
   have hd:a[i]≠b[i]→a≠b:=fun hn e=>hn (by subst e;rfl)
   obtain⟨x,ex⟩: ∃x,a[i]=x:=⟨_,rfl⟩
   obtain⟨y,ey⟩: ∃y,b[i]=y:=⟨_,rfl⟩
   rw[ex]at ga ta hd
   rw[ey]at gb tb hd
   refine Zae ?_
   refine Zab ?_
   refine Zad ?_
   refine brT h1 ?_
   refine Zae ?_
   iterate 2 refine Zab ?_
   refine Zad ?_
   cases h2:decide (x=y)with
   |true=>
    have hb:(!decide (x=y))=false:=by rw[h2];rfl
    refine Zae ?_
    iterate 2 refine Zab ?_
    refine ZaY rfl (fun _=>rfl) (Int.natCast_nonneg i) ga rfl rfl ?_
    iterate 3 refine Zab ?_
    refine ZaY rfl (fun _=>rfl) (Int.natCast_nonneg i) gb rfl rfl ?_
    iterate 2 refine Zab ?_
    refine Zad ?_
    refine brF hb ?_
    refine Zae ?_
    iterate 2 refine Zab ?_
    refine Zad ?_
    refine⟨i+1,⟨hlt,by rw[ta,tb,he,of_decide_eq_true h2]⟩,by show a.length-(i+1)<a.length-i;omega, ?_⟩
    exact Zah ⟨rfl,rfl,rfl,congrArg (fun x=>some (SV.v (.i .i64) x)) (Za5 (by omega)),trivial⟩
   |false=>
    have hb:(!decide (x=y))=true:=by rw[h2];rfl
    refine Zae ?_
    iterate 2 refine Zab ?_
    refine ZaY rfl (fun _=>rfl) (Int.natCast_nonneg i) ga rfl rfl ?_
    iterate 3 refine Zab ?_
    refine ZaY rfl (fun _=>rfl) (Int.natCast_nonneg i) gb rfl rfl ?_
    iterate 2 refine Zab ?_
    refine Zad ?_
    refine brT hb ?_
    refine Zae ?_
    refine Zab ?_
    refine Zad ?_
    refine ZaA ?_
    repeat (first|refine Zau ?_|refine Zav ?_|refine Zar ?_)
    exact congrArg (fun x=>SV.v .b x) (decide_eq_false (hd fun e=>by exact(of_decide_eq_false h2) e)).symm
end Go.Proofs.YtgmjnhiakpcpbaaGreatDoor

/-
 Lists of rational numbers: ParseAll, Dot; first; vast.
-/
import Derived.Test.YtdnodlkdndfplaaGreatDoorDm
import Derived.Test.YtdnodlkdndfplaaGreatDoorTxE
set_option linter.constructorNameAsVariable false
set_option linter.unusedSimpArgs false
set_option linter.unusedVariables false
namespace Go.Proofs.YtdnodlkdndfplaaGreatDoor
open Go.Am Go.Tx Dv Go.Lib
set_option maxRecDepth 100000
set_option maxHeartbeats 4000000 in
theorem Ztf (l:List Int) (hl:l.length≤1000000):PureOK Tryz.prog Zat 44 [.v (.l (.i .i64)) l] (fun V=>V= .v (.i .i64) (Zra l)):=by
 refine Zak Zal Tryz.func44 ?_
 refine Zaw Zal rfl (fun(i:Nat)=> [(5, .v (.l (.i .i64)) l),(6, .v (.i .i64) (l.length:Int)),(7, .v (.i .i64) (i:Int))]) (fun _=> [])
  (fun i=>i≤l.length∧Zra (l.drop i)=Zra l) (fun i=>l.length-i) ?_ 0 ?_ ?_
 ·rintro i ⟨hi,he⟩
  refine And.intro (fun h=> ?_) (fun h=> ?_)
  ·have hlt:i<l.length:=by have h':(i:Int)<(l.length:Int):=of_decide_eq_true h;omega
   obtain⟨x,hx⟩: ∃x,l[i]=x:=⟨_,rfl⟩
   have gx:l[(i:Int).toNat]? =some x:=by rw[Int.toNat_natCast,List.getElem?_eq_getElem hlt,hx]
   rw[List.drop_eq_getElem_cons hlt,hx,Zra]at he
   refine⟨x,Int.natCast_nonneg i,gx, ?_⟩
   refine And.intro (fun h2=> ?_) (fun h2=> ?_)
   ·have h2':(!decide (x=0))=true:=h2
    have hd:decide (x=0)=false:=by cases hd:decide (x=0)<;>simp[hd]at h2'⊢
    rw[hd]at he
    exact congrArg (SV.v (.i .i64)) he
   ·have h2':(!decide (x=0))=false:=h2
    have hd:decide (x=0)=true:=by cases hd:decide (x=0)<;>simp[hd]at h2'⊢
    rw[hd]at he
    have wi:IntKind.i64.wrap ((i:Int)+1)=((i+1:Nat):Int):=Zan (by omega) (by omega)
    refine⟨i+1,⟨hlt,he⟩,by show l.length-(i+1)<l.length-i;omega, ?_⟩
    refine Zap rfl rfl ?_ ?_
    ·exact⟨rfl,rfl,wi.symm,trivial⟩
    ·exact trivial
  ·have hi2:i=l.length:=by have h': ¬ (i:Int)<(l.length:Int):=of_decide_eq_false h;omega
   rw[List.drop_of_length_le (by omega)]at he
   exact congrArg (SV.v (.i .i64)) he
 ·exact⟨Nat.zero_le _,rfl⟩
 ·refine Zap rfl rfl ?_ ?_
  ·exact⟨rfl,rfl,rfl,trivial⟩
  ·exact trivial
theorem ZkL (a b:Int):PureOK Tryz.prog Zat 44 [.v (.l (.i .i64)) (sub [a,b] 0 2)] (fun V=>V= .v (.i .i64) (ZfR a b)):=by
 have h:=Ztf [a,b] (show 2≤1000000 by decide)
 rw[Znx]at h
 exact h
set_option maxHeartbeats 4000000 in
theorem Zsf (l:List Int) (hl:l.length≤1000000):PureOK Tryz.prog Zat 13 [.v (.l (.i .i64)) l] (fun V=>V= .v (.i .i64) (Zra l)):=by
 refine Zak Zal Tryz.func13 ?_
 refine Zaw Zal rfl (fun(i:Nat)=> [(5, .v (.l (.i .i64)) l),(6, .v (.i .i64) (l.length:Int)),(7, .v (.i .i64) (i:Int))]) (fun _=> [])
  (fun i=>i≤l.length∧Zra (l.drop i)=Zra l) (fun i=>l.length-i) ?_ 0 ?_ ?_
 ·rintro i ⟨hi,he⟩
  refine And.intro (fun h=> ?_) (fun h=> ?_)
  ·have hlt:i<l.length:=by have h':(i:Int)<(l.length:Int):=of_decide_eq_true h;omega
   obtain⟨x,hx⟩: ∃x,l[i]=x:=⟨_,rfl⟩
   have gx:l[(i:Int).toNat]? =some x:=by rw[Int.toNat_natCast,List.getElem?_eq_getElem hlt,hx]
   rw[List.drop_eq_getElem_cons hlt,hx,Zra]at he
   refine⟨x,Int.natCast_nonneg i,gx, ?_⟩
   refine And.intro (fun h2=> ?_) (fun h2=> ?_)
   ·have h2':(!decide (x=0))=true:=h2
    have hd:decide (x=0)=false:=by cases hd:decide (x=0)<;>simp[hd]at h2'⊢
    rw[hd]at he
    exact congrArg (SV.v (.i .i64)) he
   ·have h2':(!decide (x=0))=false:=h2
    have hd:decide (x=0)=true:=by cases hd:decide (x=0)<;>simp[hd]at h2'⊢
    rw[hd]at he
    have wi:IntKind.i64.wrap ((i:Int)+1)=((i+1:Nat):Int):=Zan (by omega) (by omega)
    refine⟨i+1,⟨hlt,he⟩,by show l.length-(i+1)<l.length-i;omega, ?_⟩
    refine Zap rfl rfl ?_ ?_
    ·exact⟨rfl,rfl,wi.symm,trivial⟩
    ·exact trivial
  ·have hi2:i=l.length:=by have h': ¬ (i:Int)<(l.length:Int):=of_decide_eq_false h;omega
   rw[List.drop_of_length_le (by omega)]at he
   exact congrArg (SV.v (.i .i64)) he
 ·exact⟨Nat.zero_le _,rfl⟩
 ·refine Zap rfl rfl ?_ ?_
  ·exact⟨rfl,rfl,rfl,trivial⟩
  ·exact trivial
theorem Zlu (a b:Int):PureOK Tryz.prog Zat 13 [.v (.l (.i .i64)) (sub [a,b] 0 2)] (fun V=>V= .v (.i .i64) (ZfR a b)):=by
 have h:=Zsf [a,b] (show 2≤1000000 by decide)
 rw[Znx]at h
 exact h
set_option maxHeartbeats 4000000 in
theorem Zpg (ps:List Rat) (hl:ps.length≤1000000) (hf: ∀p∈ps,Zeu p=true):ImpOK Tryz.prog Zat 78 [.v (.l .s) (ps.map Zbi)] (fun V hp sf=>V= .ref 0 0 ps.length none∧hp=[.row qct (ps.map ZcB) true]∧sf=false):=by
 refine Zjs (fn:=Tryz.f78) (code:=ZbP Tryz.f78) Zal (by kernel_rfl) Tryz.func78 (by kernel_rfl) (Nat.le_of_ble_eq_true (by kernel_rfl)) ?_
 have hll:(ps.map Zbi).length=ps.length:=List.length_map _
 have hg: ∀i (h:i<ps.length),(ps.map Zbi)[i]? =some (Zbi ps[i]):=fun i h=>by
  rw[List.getElem?_map,List.getElem?_eq_getElem h]
  rfl
 obtain⟨l,hl0⟩: ∃l,ps.map Zbi=l:=⟨_,rfl⟩
 rw[hl0]at hll hg⊢
 refine And.intro (show 0≤(l.length:Int)∧(l.length:Int)≤(l.length:Int)∧(64:Int)*(l.length:Int)≤281474976710656∧(l.length:Int)<9223372036854775808 by omega) ?_
 refine Zaw Zal rfl (fun(t:Nat×List qct.D)=> [(3, .ref 0 0 ps.length none),(9, .v (.l .s) l),(10, .v (.i .i64) (l.length:Int)),(11, .v (.i .i64) (t.1:Int))]) (fun t=> [.row qct t.2 true])
  (fun t=>t.1≤ps.length∧t.2.length=ps.length∧t.2.take t.1=(ps.map ZcB).take t.1) (fun t=>ps.length-t.1) ?_ (0,List.replicate ps.length qct.z) ?_ ?_
 ·rintro⟨i,out⟩ ⟨hi,hlen,hval⟩
  simp only at hi hlen hval
  refine And.intro (fun h=> ?_) (fun h=> ?_)
  ·have hlt:i<ps.length:=by have h':(i:Int)<(l.length:Int):=of_decide_eq_true h;omega
   have gx:l[(i:Int).toNat]? =some (Zbi ps[i]):=by rw[Int.toNat_natCast];exact hg i hlt
   have hfx:=hf ps[i] (List.getElem_mem hlt)
   have ho:i<out.length:=by omega
   have wi:IntKind.i64.wrap ((i:Int)+1)=((i+1:Nat):Int):=Zan (by omega) (by omega)
   have hq:=Zwe (ps:=ps) hlt
   obtain⟨x,hx⟩: ∃x,ps[i]=x:=⟨_,rfl⟩
   rw[hx]at gx hfx hq
   refine⟨Zbi x,Int.natCast_nonneg i,gx, ?_⟩
   refine(Zrn x hfx).mono ?_
   rintro _ rfl
   refine And.intro ⟨Int.natCast_nonneg i,by show(i:Int)<((ps.length:Nat):Int);omega⟩ ?_
   refine Exists.intro (out[i]) (And.intro (by simp) ?_)
   refine⟨(i+1,out.set i (ZcB x)),⟨hlt,by show(out.set _ _).length=_;simpa using hlen, ?_⟩,by show ps.length-(i+1)<ps.length-i;omega, ?_⟩
   ·show(out.set i (ZcB x)).take (i+1)=(ps.map ZcB).take (i+1)
    have h1:(out.set i (ZcB x)).take (i+1)=out.take i++ [ZcB x]:=by
     rw[List.take_succ_eq_append_getElem (by simpa using ho),List.getElem_set_self,List.take_set_of_le (Nat.le_refl _)]
    have h2:(ps.map ZcB).take (i+1)=(ps.map ZcB).take i++ [ZcB x]:=by
     have hm:i<(ps.map ZcB).length:=by simpa using hlt
     rw[List.take_succ_eq_append_getElem hm]
     have:(ps.map ZcB)[i]=ZcB x:=by rw[List.getElem?_eq_getElem hm]at hq;exact Option.some.inj hq
     rw[this]
    rw[h1,h2,hval]
   ·have er:out.set i (ZcB x)=out.set (0+(i:Int).toNat) (ZcB x):=by rw[Int.toNat_natCast,Nat.zero_add]
    refine Zap rfl rfl ?_ ?_
    ·exact⟨⟨rfl,rfl,rfl⟩,rfl,rfl,wi.symm,trivial⟩
    ·exact⟨⟨er,fun _=>rfl⟩,trivial⟩
  ·have hi2:i=ps.length:=by have h': ¬ (i:Int)<(l.length:Int):=of_decide_eq_false h;omega
   have ho:out=ps.map ZcB:=by
    rw[hi2,List.take_of_length_le (by omega),List.take_of_length_le (by simp)]at hval
    exact hval
   refine⟨.ref 0 0 ps.length none,[.row qct (ps.map ZcB) true], ?_,rfl,rfl,rfl,rfl⟩
   refine Zap rfl rfl ?_ ?_
   ·exact⟨⟨rfl,rfl,rfl⟩,trivial⟩
   ·exact⟨⟨ho.symm,fun _=>rfl⟩,trivial⟩
 ·exact⟨Nat.zero_le _,by simp,by simp⟩
 ·have e1:ps.length=((l.length:Nat):Int).toNat:=by omega
  refine Zap rfl rfl ?_ ?_
  ·exact⟨⟨rfl,e1,e1⟩,rfl,rfl,rfl,trivial⟩
  ·exact⟨⟨by rw[e1];rfl,fun _=>rfl⟩,trivial⟩
end Go.Proofs.YtdnodlkdndfplaaGreatDoor
/-
 lin.Width.
-/
namespace Go.Proofs.YtdnodlkdndfplaaGreatDoor
open Go.Am Go.Tx Dv Go.Lib
set_option maxRecDepth 100000
def Zxo {α:Type}:List (List α)→Nat
 | []=>0
 |r::_=>r.length
end Go.Proofs.YtdnodlkdndfplaaGreatDoor
/-
 Texts of numbers, of rows, of matrices; the numbers of a matrix.
-/
namespace Go.Proofs.YtdnodlkdndfplaaGreatDoor
open Go.Am Go.Tx Dv Go.Lib
set_option maxRecDepth 100000
theorem Ztk {α:Type} {l:List α} {n:Nat} (h:l.length=n):sub l 0 n=l:=by
 subst h
 rw[sub,List.drop_zero,List.take_of_length_le (Nat.le_refl _)]
def ZoM:List Rat→Bool
 | []=>true
 |q::r=>match Zeu q with
  |true=>ZoM r
  |false=>false
theorem Zn0: ∀ {ps:List Rat},(∀p∈ps,Zeu p=true)→ZoM ps=true
 | [],_=>rfl
 |q::r,h=>by
  rw[ZoM,h q List.mem_cons_self]
  exact Zn0 fun p hp=>h p (List.mem_cons_of_mem _ hp)
theorem Zkt {α β:Type} {g:α→β} {ps:List α} {out:List β} {i:Nat} (hlt:i<ps.length) (hlen:out.length=ps.length) (hval:out.take i=(ps.map g).take i):(out.set i (g ps[i])).take (i+1)=(ps.map g).take (i+1):=by
 have ho:i<out.length:=by omega
 have h1:(out.set i (g ps[i])).take (i+1)=out.take i++ [g ps[i]]:=by
  rw[List.take_succ_eq_append_getElem (by simpa using ho),List.getElem_set_self,List.take_set_of_le (Nat.le_refl _)]
 have hm:i<(ps.map g).length:=by simpa using hlt
 rw[h1,List.take_succ_eq_append_getElem hm,List.getElem_map,hval]
set_option maxHeartbeats 8000000 in
theorem Zs1 (ps:List Rat) (hl:ps.length≤1000):PureOK Tryz.prog Zat 85 [QL ps] (fun V=> ∃X,V= .tup [X, .v .b (ZoM ps)]∧(ZoM ps=true→X= .v (.l .s) (ps.map Zbi))):=by
 refine Zak Zal Tryz.func85 ?_
 have hll:(ps.map ZcB).length=ps.length:=List.length_map _
 have hg:=fun i (h:i<ps.length)=>Zwe (ps:=ps) h
 obtain⟨L,hL⟩: ∃l,ps.map ZcB=l:=⟨_,rfl⟩
 rw[hL]at hll hg
 rw[show QL ps= .v (.l qct) L by rw[←hL]]
 refine And.intro (show 0≤(L.length:Int)∧(L.length:Int)≤(L.length:Int)∧(16:Int)*(L.length:Int)≤281474976710656∧(L.length:Int)<9223372036854775808 by omega) ?_
 refine Zaw Zal rfl (fun(t:Nat×List (List UInt8))=> [(4, .ref 0 0 ps.length none),(12, .v (.l qct) L),(13, .v (.i .i64) (L.length:Int)),(14, .v (.i .i64) (t.1:Int))]) (fun t=> [.row .s t.2 true])
  (fun t=>t.1≤ps.length∧t.2.length=ps.length∧t.2.take t.1=(ps.map Zbi).take t.1∧ZoM (ps.drop t.1)=ZoM ps) (fun t=>ps.length-t.1) ?_ (0,List.replicate ps.length []) ?_ ?_
 ·rintro⟨i,out⟩ ⟨hi,hlen,hval,hfit⟩
  simp only at hi hlen hval hfit
  refine And.intro (fun h=> ?_) (fun h=> ?_)
  ·have hlt:i<ps.length:=by have h':(i:Int)<(L.length:Int):=of_decide_eq_true h;omega
   have gx:L[(i:Int).toNat]? =some (ZcB ps[i]):=by rw[Int.toNat_natCast];exact hg i hlt
   have hstep:=Zkt (g:=Zbi) hlt hlen hval
   have ho:i<out.length:=by omega
   have wi:IntKind.i64.wrap ((i:Int)+1)=((i+1:Nat):Int):=Zan (by omega) (by omega)
   rw[List.drop_eq_getElem_cons hlt,ZoM]at hfit
   obtain⟨q,hq⟩: ∃x,ps[i]=x:=⟨_,rfl⟩
   rw[hq]at gx hstep hfit
   refine⟨ZcB q,Int.natCast_nonneg i,gx, ?_⟩
   refine And.intro rfl ?_
   refine And.intro rfl ?_
   refine(Zui q).mono ?_
   rintro _ ⟨X,rfl,hX⟩
   obtain⟨f,hf⟩: ∃x,Zeu q=x:=⟨_,rfl⟩
   rw[hf]at hX hfit⊢
   cases f with
   |false=>
    refine And.intro (fun _=> ?_) (fun h=>nomatch h)
    simp only at hfit
    exact⟨_,by rw[←hfit],fun h=>by rw[←hfit]at h;cases h⟩
   |true=>
    refine And.intro (fun h=>nomatch h) (fun _=> ?_)
    obtain rfl:=hX rfl
    simp only at hfit
    refine And.intro ⟨Int.natCast_nonneg i,by show(i:Int)<((ps.length:Nat):Int);omega⟩ ?_
    refine Exists.intro (out[i]) (And.intro (by simp) ?_)
    refine⟨(i+1,out.set i (Zbi q)),⟨hlt,by show(out.set _ _).length=_;simpa using hlen,hstep,hfit⟩,by show ps.length-(i+1)<ps.length-i;omega, ?_⟩
    have er:out.set i (Zbi q)=out.set (0+(i:Int).toNat) (Zbi q):=by rw[Int.toNat_natCast,Nat.zero_add]
    refine Zap rfl rfl ?_ ?_
    ·exact⟨⟨rfl,rfl,rfl⟩,rfl,rfl,wi.symm,trivial⟩
    ·exact⟨⟨er,fun _=>rfl⟩,trivial⟩
  ·have hi2:i=ps.length:=by have h': ¬ (i:Int)<(L.length:Int):=of_decide_eq_false h;omega
   have ho:out=ps.map Zbi:=by
    rw[hi2,List.take_of_length_le (by omega),List.take_of_length_le (by simp)]at hval
    exact hval
   have hf:ZoM ps=true:=by rw[←hfit,hi2,List.drop_length];rfl
   refine⟨by show 0+ps.length≤out.length;omega, ?_⟩
   refine⟨_,by rw[hf],fun _=> ?_⟩
   show SV.v (.l .s) (sub out 0 ps.length)=_
   rw[ho,sub,List.drop_zero,List.take_of_length_le (by simp)]
 ·exact⟨Nat.zero_le _,by simp,by simp,rfl⟩
 ·have e1:ps.length=((L.length:Nat):Int).toNat:=by omega
  refine Zap rfl rfl ?_ ?_
  ·exact⟨⟨rfl,e1,e1⟩,rfl,rfl,rfl,trivial⟩
  ·exact⟨⟨by rw[e1];rfl,fun _=>rfl⟩,trivial⟩
def Zw5 (ps:List Rat):SV:=match ZoM ps with
 |true=> .tup [.v (.l .s) (ps.map Zbi), .v (.i .i64) (0:Int)]
 |false=> .tup [.nils, .v (.i .i64) (2:Int)]
theorem Zri (ps:List Rat) (hl:ps.length≤1000):PureOK Tryz.prog Zat 79 [QL ps] (fun V=>V=Zw5 ps):=by
 unfold Zw5
 refine Zak Zal Tryz.func79 ?_
 refine(Zs1 ps hl).mono ?_
 rintro _ ⟨X,rfl,hX⟩
 cases hf:ZoM ps with
 |false=>
  rw[hf]at hX
  exact And.intro (fun _=>rfl) (fun h=>nomatch h)
 |true=>
  obtain rfl:=hX hf
  exact And.intro (fun h=>nomatch h) (fun _=>rfl)
def Zkf (pss:List (List Rat)):List (List qct.D):=pss.map fun ps=>ps.map ZcB
def ZeH (pss:List (List Rat)):List (List (List UInt8)):=pss.map fun ps=>ps.map Zbi
theorem Zg7 {pss:List (List Rat)} {i:Nat} (h:i<pss.length):(Zkf pss)[i]? =some (pss[i].map ZcB):=by
 rw[Zkf,List.getElem?_map,List.getElem?_eq_getElem h]
 rfl
theorem ZlK {pss:List (List Rat)} {i:Nat} (h:i<pss.length):(ZeH pss)[i]? =some (pss[i].map Zbi):=by
 rw[ZeH,List.getElem?_map,List.getElem?_eq_getElem h]
 rfl
def ZnL:List (List Rat)→Bool
 | []=>true
 |ps::r=>match ZoM ps with
  |true=>ZnL r
  |false=>false
theorem ZnE: ∀ {pss:List (List Rat)},(∀ps∈pss,∀p∈ps,Zeu p=true)→ZnL pss=true
 | [],_=>rfl
 |q::r,h=>by
  rw[ZnL,Zn0 (h q List.mem_cons_self)]
  exact ZnE fun p hp=>h p (List.mem_cons_of_mem _ hp)
theorem Zrs {α β:Type} {g:α→β} {ps:List α} {i:Nat} (hlt:i<ps.length):(ps.take i).map g++ [g ps[i]]=(ps.take (i+1)).map g:=by
 rw[List.take_succ_eq_append_getElem hlt,List.map_append]
 rfl
def ZmA (pss:List (List Rat)):SV:=match ZnL pss with
 |true=> .tup [.v (.l (.l .s)) (ZeH pss), .v (.i .i64) (0:Int)]
 |false=> .tup [.nils, .v (.i .i64) (2:Int)]
set_option maxHeartbeats 8000000 in
theorem Zun (pss:List (List Rat)) (hl:pss.length≤1000) (hr: ∀ps∈pss,ps.length≤1000):PureOK Tryz.prog Zat 96 [.v (.l (.l qct)) (Zkf pss)] (fun V=>V=ZmA pss):=by
 unfold ZmA
 refine Zak Zal Tryz.func96 ?_
 have hll:(Zkf pss).length=pss.length:=List.length_map _
 have hg:=fun i (h:i<pss.length)=>Zg7 h
 obtain⟨L,hL⟩: ∃l,Zkf pss=l:=⟨_,rfl⟩
 rw[hL]at hll hg⊢
 refine Zaw Zal rfl (fun(i:Nat)=> [(4, .ref 0 0 i none),(9, .v (.l (.l qct)) L),(10, .v (.i .i64) (L.length:Int)),(11, .v (.i .i64) (i:Int))]) (fun i=> [.row (.l .s) ((pss.take i).map fun ps=>ps.map Zbi) true])
  (fun i=>i≤pss.length∧ZnL (pss.drop i)=ZnL pss) (fun i=>pss.length-i) ?_ 0 ?_ ?_
 ·rintro i ⟨hi,hfit⟩
  refine And.intro (fun h=> ?_) (fun h=> ?_)
  ·have hlt:i<pss.length:=by have h':(i:Int)<(L.length:Int):=of_decide_eq_true h;omega
   have gx:L[(i:Int).toNat]? =some (pss[i].map ZcB):=by rw[Int.toNat_natCast];exact hg i hlt
   have hsn:=Zrs (g:=fun ps:List Rat=>ps.map Zbi) hlt
   have wi:IntKind.i64.wrap ((i:Int)+1)=((i+1:Nat):Int):=Zan (by omega) (by omega)
   have hrl:=hr pss[i] (List.getElem_mem hlt)
   rw[List.drop_eq_getElem_cons hlt,ZnL]at hfit
   obtain⟨ps,hq⟩: ∃x,pss[i]=x:=⟨_,rfl⟩
   rw[hq]at gx hfit hrl hsn
   refine⟨ps.map ZcB,Int.natCast_nonneg i,gx, ?_⟩
   refine(Zri ps hrl).mono ?_
   intro V hV
   unfold Zw5 at hV
   cases hf:ZoM ps with
   |false=>
    rw[hf]at hV hfit
    simp only at hV hfit
    subst hV
    refine And.intro (fun _=> ?_) (fun h=>nomatch h)
    rw[←hfit]
    rfl
   |true=>
    rw[hf]at hV hfit
    simp only at hV hfit
    subst hV
    refine And.intro (fun h=>nomatch h) (fun _=> ?_)
    have hlen:((pss.take i).map fun ps=>ps.map Zbi).length=i:=by rw[List.length_map,List.length_take];omega
    refine And.intro (show 0+1≤1 by decide) ?_
    refine And.intro (Nat.le_of_eq ((Nat.zero_add i).trans hlen.symm)) ?_
    refine And.intro (show(i+(0+1))*24≤140737488355328 by omega) ?_
    refine⟨i+1,⟨hlt,hfit⟩,by show pss.length-(i+1)<pss.length-i;omega, ?_⟩
    refine Zap rfl rfl ?_ ?_
    ·exact⟨⟨rfl,rfl,rfl⟩,rfl,rfl,wi.symm,trivial⟩
    ·refine⟨⟨?_,fun _=>rfl⟩,trivial⟩
     show((pss.take (i+1)).map fun ps=>ps.map Zbi)=sub ((pss.take i).map fun ps=>ps.map Zbi) 0 i++ [ps.map Zbi]
     rw[←hsn,Ztk hlen]
  ·have hi2:i=pss.length:=by have h': ¬ (i:Int)<(L.length:Int):=of_decide_eq_false h;omega
   have hf:ZnL pss=true:=by rw[←hfit,hi2,List.drop_length];rfl
   rw[hf,hi2,List.take_length]
   refine⟨by show 0+pss.length≤(pss.map fun ps=>ps.map Zbi).length;rw[List.length_map];omega, ?_⟩
   show SV.tup [SV.v (.l (.l .s)) (sub (pss.map fun ps=>ps.map Zbi) 0 pss.length),SV.v (.i .i64) (0:Int)]=SV.tup [.v (.l (.l .s)) (ZeH pss), .v (.i .i64) (0:Int)]
   rw[sub,List.drop_zero,List.take_of_length_le (by rw[List.length_map];omega)]
   rfl
 ·exact⟨Nat.zero_le _,rfl⟩
 ·refine Zap rfl rfl ?_ ?_
  ·exact⟨⟨rfl,rfl,rfl⟩,rfl,rfl,rfl,trivial⟩
  ·exact⟨rfl,trivial⟩
end Go.Proofs.YtdnodlkdndfplaaGreatDoor

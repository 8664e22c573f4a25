/-
 Lists of rational numbers: ParseAll, Dot; first; vast.
-/
import Derived.Test.YtdnodlkdndfplaaGreatDoorDm
import Derived.Test.YtdnodlkdndfplaaGreatDoorTxE
set_option linter.constructorNameAsVariable false
set_option linter.unusedSimpArgs false
set_option linter.unusedVariables false
namespace Go.Proofs.YtdnodlkdndfplaaGreatDoor
open Go.Am Go.Tx Dv Go.Lib
set_option maxRecDepth 100000
set_option maxHeartbeats 4000000 in
theorem ZwC (l:List Int) (hl:l.length≤1000000000):PureOK Tryz.prog Zan 13 [.v (.l (.i .i64)) l] (fun V=>V= .v (.i .i64) (Zyl l)):=by
 refine Zac Zaa Tryz.func13 ?_
 refine Zat Zaa rfl (fun(i:Nat)=> [(5, .v (.l (.i .i64)) l),(6, .v (.i .i64) (l.length:Int)),(7, .v (.i .i64) (i:Int))]) (fun _=> [])
  (fun i=>i≤l.length∧Zyl (l.drop i)=Zyl l) (fun i=>l.length-i) ?_ 0 ?_ ?_
 ·rintro i ⟨hi,he⟩
  refine And.intro (fun h=> ?_) (fun h=> ?_)
  ·have hlt:i<l.length:=by have h':(i:Int)<(l.length:Int):=of_decide_eq_true h;omega
   obtain⟨x,hx⟩: ∃x,l[i]=x:=⟨_,rfl⟩
   have gx:l[(i:Int).toNat]? =some x:=by rw[Int.toNat_natCast,List.getElem?_eq_getElem hlt,hx]
   rw[List.drop_eq_getElem_cons hlt,hx,Zyl]at he
   refine⟨x,Int.natCast_nonneg i,gx, ?_⟩
   refine And.intro (fun h2=> ?_) (fun h2=> ?_)
   ·have h2':(!decide (x=0))=true:=h2
    have hd:decide (x=0)=false:=by cases hd:decide (x=0)<;>simp[hd]at h2'⊢
    rw[hd]at he
    exact congrArg (SV.v (.i .i64)) he
   ·have h2':(!decide (x=0))=false:=h2
    have hd:decide (x=0)=true:=by cases hd:decide (x=0)<;>simp[hd]at h2'⊢
    rw[hd]at he
    have wi:IntKind.i64.wrap ((i:Int)+1)=((i+1:Nat):Int):=Zah (by omega) (by omega)
    refine⟨i+1,⟨hlt,he⟩,by show l.length-(i+1)<l.length-i;omega, ?_⟩
    refine Zal rfl rfl ?_ ?_
    ·exact⟨rfl,rfl,wi.symm,trivial⟩
    ·exact trivial
  ·have hi2:i=l.length:=by have h': ¬ (i:Int)<(l.length:Int):=of_decide_eq_false h;omega
   rw[List.drop_of_length_le (by omega)]at he
   exact congrArg (SV.v (.i .i64)) he
 ·exact⟨Nat.zero_le _,rfl⟩
 ·refine Zal rfl rfl ?_ ?_
  ·exact⟨rfl,rfl,rfl,trivial⟩
  ·exact trivial
theorem Zsj (a b:Int):PureOK Tryz.prog Zan 13 [.v (.l (.i .i64)) (sub [a,b] 0 2)] (fun V=>V= .v (.i .i64) (Zny a b)):=by
 have h:=ZwC [a,b] (show 2≤1000000000 by decide)
 rw[ZvA]at h
 exact h
theorem Zlc (q:Rat):PureOK Tryz.prog Zan 123 [QR q] (fun V=>V= .v (.i .i64) q.num.sign):=by
 refine Zac Zaa Tryz.func123 ?_
 refine And.intro rfl ?_
 refine(Zxu q.num).mono ?_
 rintro _ rfl
 rfl
set_option maxHeartbeats 4000000 in
theorem ZjS (ps:List Rat) (hl:ps.length≤1000000000) (hf: ∀p∈ps,ZjJ p=true):PureOK Tryz.prog Zan 78 [.v (.l .s) (ps.map ZaX)] (fun V=>V=QL ps):=by
 refine Zac Zaa Tryz.func78 ?_
 have hll:(ps.map ZaX).length=ps.length:=List.length_map _
 have hg: ∀i (h:i<ps.length),(ps.map ZaX)[i]? =some (ZaX ps[i]):=fun i h=>by
  rw[List.getElem?_map,List.getElem?_eq_getElem h]
  rfl
 obtain⟨l,hl0⟩: ∃l,ps.map ZaX=l:=⟨_,rfl⟩
 rw[hl0]at hll hg⊢
 refine And.intro (show 0≤(l.length:Int)∧(l.length:Int)≤(l.length:Int)∧(64:Int)*(l.length:Int)≤281474976710656∧(l.length:Int)<9223372036854775808 by omega) ?_
 refine Zat Zaa rfl (fun(t:Nat×List qct.D)=> [(3, .ref 0 0 ps.length none),(9, .v (.l .s) l),(10, .v (.i .i64) (l.length:Int)),(11, .v (.i .i64) (t.1:Int))]) (fun t=> [.row qct t.2 true])
  (fun t=>t.1≤ps.length∧t.2.length=ps.length∧t.2.take t.1=(ps.map Zcy).take t.1) (fun t=>ps.length-t.1) ?_ (0,List.replicate ps.length qct.z) ?_ ?_
 ·rintro⟨i,out⟩ ⟨hi,hlen,hval⟩
  simp only at hi hlen hval
  refine And.intro (fun h=> ?_) (fun h=> ?_)
  ·have hlt:i<ps.length:=by have h':(i:Int)<(l.length:Int):=of_decide_eq_true h;omega
   have gx:l[(i:Int).toNat]? =some (ZaX ps[i]):=by rw[Int.toNat_natCast];exact hg i hlt
   have hfx:=hf ps[i] (List.getElem_mem hlt)
   have ho:i<out.length:=by omega
   have wi:IntKind.i64.wrap ((i:Int)+1)=((i+1:Nat):Int):=Zah (by omega) (by omega)
   have hq:=Zz7 (ps:=ps) hlt
   obtain⟨x,hx⟩: ∃x,ps[i]=x:=⟨_,rfl⟩
   rw[hx]at gx hfx hq
   refine⟨ZaX x,Int.natCast_nonneg i,gx, ?_⟩
   refine(Zzc x hfx).mono ?_
   rintro _ rfl
   refine And.intro ⟨Int.natCast_nonneg i,by show(i:Int)<((ps.length:Nat):Int);omega⟩ ?_
   refine Exists.intro (out[i]) (And.intro (by simp) ?_)
   refine⟨(i+1,out.set i (Zcy x)),⟨hlt,by show(out.set _ _).length=_;simpa using hlen, ?_⟩,by show ps.length-(i+1)<ps.length-i;omega, ?_⟩
   ·show(out.set i (Zcy x)).take (i+1)=(ps.map Zcy).take (i+1)
    have h1:(out.set i (Zcy x)).take (i+1)=out.take i++ [Zcy x]:=by
     rw[List.take_succ_eq_append_getElem (by simpa using ho),List.getElem_set_self,List.take_set_of_le (Nat.le_refl _)]
    have h2:(ps.map Zcy).take (i+1)=(ps.map Zcy).take i++ [Zcy x]:=by
     have hm:i<(ps.map Zcy).length:=by simpa using hlt
     rw[List.take_succ_eq_append_getElem hm]
     have:(ps.map Zcy)[i]=Zcy x:=by rw[List.getElem?_eq_getElem hm]at hq;exact Option.some.inj hq
     rw[this]
    rw[h1,h2,hval]
   ·have er:out.set i (Zcy x)=out.set (0+(i:Int).toNat) (Zcy x):=by rw[Int.toNat_natCast,Nat.zero_add]
    refine Zal rfl rfl ?_ ?_
    ·exact⟨⟨rfl,rfl,rfl⟩,rfl,rfl,wi.symm,trivial⟩
    ·exact⟨⟨er,fun _=>rfl⟩,trivial⟩
  ·have hi2:i=ps.length:=by have h': ¬ (i:Int)<(l.length:Int):=of_decide_eq_false h;omega
   have ho:out=ps.map Zcy:=by
    rw[hi2,List.take_of_length_le (by omega),List.take_of_length_le (by simp)]at hval
    exact hval
   refine⟨by show 0+ps.length≤out.length;omega, ?_⟩
   show SV.v (.l qct) (sub out 0 ps.length)=SV.v (.l qct) (ps.map Zcy)
   rw[ho,sub,List.drop_zero,List.take_of_length_le (by simp)]
 ·exact⟨Nat.zero_le _,by simp,by simp⟩
 ·have e1:ps.length=((l.length:Nat):Int).toNat:=by omega
  refine Zal rfl rfl ?_ ?_
  ·exact⟨⟨rfl,e1,e1⟩,rfl,rfl,rfl,trivial⟩
  ·exact⟨⟨by rw[e1];rfl,fun _=>rfl⟩,trivial⟩
end Go.Proofs.YtdnodlkdndfplaaGreatDoor
/-
 lin.Width.
-/
namespace Go.Proofs.YtdnodlkdndfplaaGreatDoor
open Go.Am Go.Tx Dv Go.Lib
set_option maxRecDepth 100000
def ZdF {α:Type}:List (List α)→Nat
 | []=>0
 |r::_=>r.length
theorem ZwJ (m:List (List qct.D)):PureOK Tryz.prog Zan 117 [.v (.l (.l qct)) m] (fun V=>V= .v (.i .i64) ((ZdF m:Nat):Int)):=by
 refine Zac Zaa Tryz.func117 ?_
 refine And.intro (fun h=> ?_) (fun h=> ?_)
 ·have h':decide ((m.length:Int)=0)=true:=h
  have h0:m.length=0:=by have:=of_decide_eq_true h';omega
  rw[List.length_eq_zero_iff.1 h0]
  rfl
 ·have h':decide ((m.length:Int)=0)=false:=h
  cases m with
  |nil=>cases h'
  |cons r m=>exact⟨r,Int.le_refl 0,rfl,rfl⟩
end Go.Proofs.YtdnodlkdndfplaaGreatDoor
/-
 Texts of numbers, of rows, of matrices; the numbers of a matrix.
-/
namespace Go.Proofs.YtdnodlkdndfplaaGreatDoor
open Go.Am Go.Tx Dv Go.Lib
set_option maxRecDepth 100000
theorem ZpI {α:Type} {l:List α} {n:Nat} (h:l.length=n):sub l 0 n=l:=by
 subst h
 rw[sub,List.drop_zero,List.take_of_length_le (Nat.le_refl _)]
def Zru:List Rat→Bool
 | []=>true
 |q::r=>match ZjJ q with
  |true=>Zru r
  |false=>false
theorem Zql: ∀ {ps:List Rat},(∀p∈ps,ZjJ p=true)→Zru ps=true
 | [],_=>rfl
 |q::r,h=>by
  rw[Zru,h q List.mem_cons_self]
  exact Zql fun p hp=>h p (List.mem_cons_of_mem _ hp)
theorem Znm {α β:Type} {g:α→β} {ps:List α} {out:List β} {i:Nat} (hlt:i<ps.length) (hlen:out.length=ps.length) (hval:out.take i=(ps.map g).take i):(out.set i (g ps[i])).take (i+1)=(ps.map g).take (i+1):=by
 have ho:i<out.length:=by omega
 have h1:(out.set i (g ps[i])).take (i+1)=out.take i++ [g ps[i]]:=by
  rw[List.take_succ_eq_append_getElem (by simpa using ho),List.getElem_set_self,List.take_set_of_le (Nat.le_refl _)]
 have hm:i<(ps.map g).length:=by simpa using hlt
 rw[h1,List.take_succ_eq_append_getElem hm,List.getElem_map,hval]
set_option maxHeartbeats 8000000 in
theorem ZwS (ps:List Rat) (hl:ps.length≤1000):PureOK Tryz.prog Zan 85 [QL ps] (fun V=> ∃X,V= .tup [X, .v .b (Zru ps)]∧(Zru ps=true→X= .v (.l .s) (ps.map ZaX))):=by
 refine Zac Zaa Tryz.func85 ?_
 have hll:(ps.map Zcy).length=ps.length:=List.length_map _
 have hg:=fun i (h:i<ps.length)=>Zz7 (ps:=ps) h
 obtain⟨L,hL⟩: ∃l,ps.map Zcy=l:=⟨_,rfl⟩
 rw[hL]at hll hg
 rw[show QL ps= .v (.l qct) L by rw[←hL]]
 refine And.intro (show 0≤(L.length:Int)∧(L.length:Int)≤(L.length:Int)∧(16:Int)*(L.length:Int)≤281474976710656∧(L.length:Int)<9223372036854775808 by omega) ?_
 refine Zat Zaa rfl (fun(t:Nat×List (List UInt8))=> [(4, .ref 0 0 ps.length none),(12, .v (.l qct) L),(13, .v (.i .i64) (L.length:Int)),(14, .v (.i .i64) (t.1:Int))]) (fun t=> [.row .s t.2 true])
  (fun t=>t.1≤ps.length∧t.2.length=ps.length∧t.2.take t.1=(ps.map ZaX).take t.1∧Zru (ps.drop t.1)=Zru ps) (fun t=>ps.length-t.1) ?_ (0,List.replicate ps.length []) ?_ ?_
 ·rintro⟨i,out⟩ ⟨hi,hlen,hval,hfit⟩
  simp only at hi hlen hval hfit
  refine And.intro (fun h=> ?_) (fun h=> ?_)
  ·have hlt:i<ps.length:=by have h':(i:Int)<(L.length:Int):=of_decide_eq_true h;omega
   have gx:L[(i:Int).toNat]? =some (Zcy ps[i]):=by rw[Int.toNat_natCast];exact hg i hlt
   have hstep:=Znm (g:=ZaX) hlt hlen hval
   have ho:i<out.length:=by omega
   have wi:IntKind.i64.wrap ((i:Int)+1)=((i+1:Nat):Int):=Zah (by omega) (by omega)
   rw[List.drop_eq_getElem_cons hlt,Zru]at hfit
   obtain⟨q,hq⟩: ∃x,ps[i]=x:=⟨_,rfl⟩
   rw[hq]at gx hstep hfit
   refine⟨Zcy q,Int.natCast_nonneg i,gx, ?_⟩
   refine And.intro rfl ?_
   refine And.intro rfl ?_
   refine(ZxJ q).mono ?_
   rintro _ ⟨X,rfl,hX⟩
   obtain⟨f,hf⟩: ∃x,ZjJ q=x:=⟨_,rfl⟩
   rw[hf]at hX hfit⊢
   cases f with
   |false=>
    refine And.intro (fun _=> ?_) (fun h=>nomatch h)
    simp only at hfit
    exact⟨_,by rw[←hfit],fun h=>by rw[←hfit]at h;cases h⟩
   |true=>
    refine And.intro (fun h=>nomatch h) (fun _=> ?_)
    obtain rfl:=hX rfl
    simp only at hfit
    refine And.intro ⟨Int.natCast_nonneg i,by show(i:Int)<((ps.length:Nat):Int);omega⟩ ?_
    refine Exists.intro (out[i]) (And.intro (by simp) ?_)
    refine⟨(i+1,out.set i (ZaX q)),⟨hlt,by show(out.set _ _).length=_;simpa using hlen,hstep,hfit⟩,by show ps.length-(i+1)<ps.length-i;omega, ?_⟩
    have er:out.set i (ZaX q)=out.set (0+(i:Int).toNat) (ZaX q):=by rw[Int.toNat_natCast,Nat.zero_add]
    refine Zal rfl rfl ?_ ?_
    ·exact⟨⟨rfl,rfl,rfl⟩,rfl,rfl,wi.symm,trivial⟩
    ·exact⟨⟨er,fun _=>rfl⟩,trivial⟩
  ·have hi2:i=ps.length:=by have h': ¬ (i:Int)<(L.length:Int):=of_decide_eq_false h;omega
   have ho:out=ps.map ZaX:=by
    rw[hi2,List.take_of_length_le (by omega),List.take_of_length_le (by simp)]at hval
    exact hval
   have hf:Zru ps=true:=by rw[←hfit,hi2,List.drop_length];rfl
   refine⟨by show 0+ps.length≤out.length;omega, ?_⟩
   refine⟨_,by rw[hf],fun _=> ?_⟩
   show SV.v (.l .s) (sub out 0 ps.length)=_
   rw[ho,sub,List.drop_zero,List.take_of_length_le (by simp)]
 ·exact⟨Nat.zero_le _,by simp,by simp,rfl⟩
 ·have e1:ps.length=((L.length:Nat):Int).toNat:=by omega
  refine Zal rfl rfl ?_ ?_
  ·exact⟨⟨rfl,e1,e1⟩,rfl,rfl,rfl,trivial⟩
  ·exact⟨⟨by rw[e1];rfl,fun _=>rfl⟩,trivial⟩
def Zw7 (ps:List Rat):SV:=match Zru ps with
 |true=> .tup [.v (.l .s) (ps.map ZaX), .v (.i .i64) (0:Int)]
 |false=> .tup [.nils, .v (.i .i64) (2:Int)]
theorem Zuk (ps:List Rat) (hl:ps.length≤1000):PureOK Tryz.prog Zan 79 [QL ps] (fun V=>V=Zw7 ps):=by
 unfold Zw7
 refine Zac Zaa Tryz.func79 ?_
 refine(ZwS ps hl).mono ?_
 rintro _ ⟨X,rfl,hX⟩
 cases hf:Zru ps with
 |false=>
  rw[hf]at hX
  exact And.intro (fun _=>rfl) (fun h=>nomatch h)
 |true=>
  obtain rfl:=hX hf
  exact And.intro (fun h=>nomatch h) (fun _=>rfl)
def ZuZ (pss:List (List Rat)):List (List qct.D):=pss.map fun ps=>ps.map Zcy
def Zqb (pss:List (List Rat)):List (List (List UInt8)):=pss.map fun ps=>ps.map ZaX
theorem Zx6 {pss:List (List Rat)} {i:Nat} (h:i<pss.length):(ZuZ pss)[i]? =some (pss[i].map Zcy):=by
 rw[ZuZ,List.getElem?_map,List.getElem?_eq_getElem h]
 rfl
theorem ZuG {pss:List (List Rat)} {i:Nat} (h:i<pss.length):(Zqb pss)[i]? =some (pss[i].map ZaX):=by
 rw[Zqb,List.getElem?_map,List.getElem?_eq_getElem h]
 rfl
theorem Zt7 {α β:Type} {g:α→β} {ps:List α} {i:Nat} (hlt:i<ps.length):(ps.take i).map g++ [g ps[i]]=(ps.take (i+1)).map g:=by
 rw[List.take_succ_eq_append_getElem hlt,List.map_append]
 rfl
end Go.Proofs.YtdnodlkdndfplaaGreatDoor
/-
 Places behind a heap of any length; function values called in regions with light operations.
-/
namespace Go.Tx
open Go.Am
section
variable {P : Program} {h : Hints} {T : TypeId → TI} {hp : List SM} {tm : TM}
theorem ZeI {α:Type} {a:List α} {x:α} {r:List α}:nth (a++x::r) a.length=some x:=by
 rw[ZaT,List.getElem?_append_right (Nat.le_refl _),Nat.sub_self];rfl
theorem Zuu {α:Type} {a:List α} {x y:α} {r:List α}:(a++x::r).set a.length y=a++y::r:=by
 rw[List.set_append_right _ _ (Nat.le_refl _),Nat.sub_self];rfl
variable {N : Nat} {ls : List Nat} {o : Oper} {l : List Oper} {i : Nat} {ks : List (Nat × Nat × Bool)} {kk : TM → List SM → Prop}
end
end Go.Tx
/-
 Matrices of own rows: two rows change places; a slice without memory seen as an empty row; a row that was built anew behind the matrix.
-/
namespace Go.Tx
open Go.Am
section
variable {P : Program} {h : Hints} {T : TypeId → TI} {hp : List SM} {tm : TM}
def ZBe (ok:Nat→Prop) (tm:TM):TM→Prop
 | []=>True
 |(i,V')::r=>Zbj i tm=some V'∧(∀id∈Zen V',ok id)∧ZBe ok tm r
mutual
theorem Zxz {f:Nat→Nat}: ∀V:SV,(∀id∈Zen V,f id=id)→rnV f V=V
 | .ref id i n m,hb=>by rw[rnV,hb id (by simp[Zen])]
 | .ptr id i r,hb=>by rw[rnV,hb id (by simp[Zen])]
 | .func g a c,hb=>by
  simp only[Zen,List.mem_append]at hb
  rw[rnV,rnL_ok a (fun id hi=>hb id (.inl hi)),rnL_ok c (fun id hi=>hb id (.inr hi))]
 | .agg cs,hb=>by rw[rnV,rnL_ok cs (by simpa only[Zen]using hb)]
 | .tup cs,hb=>by rw[rnV,rnL_ok cs (by simpa only[Zen]using hb)]
 | .v _ _,_| .nilp,_| .nils,_| .nilf,_| .nili,_| .box _ _ _,_=>rfl
theorem rnL_ok {f:Nat→Nat}: ∀l:List SV,(∀id∈rchL l,f id=id)→rnL f l=l
 | [],_=>rfl
 |v::r,hb=>by
  simp only[rchL,List.mem_append]at hb
  rw[rnL,Zxz v (fun id hi=>hb id (.inl hi)),rnL_ok r (fun id hi=>hb id (.inr hi))]
end
theorem Zml {ok:Nat→Prop} {f:Nat→Nat} {n:Nat} (hok: ∀id,ok id→f id=id∧id<n) {tm:TM}: ∀ {tm':TM},ZBe ok tm tm'→Zw6 f n tm tm'
 | [],_=>trivial
 |(i,V')::r,⟨h1,h2,h3⟩=>⟨by rw[Zxz V' fun id hi=>(hok id (h2 id hi)).1];exact h1,fun id hi=>(hok id (h2 id hi)).2,Zml hok h3⟩
theorem ZpJ {A:SM} {ct:CT} {xs:List (List ct.D)} {ex:List SM} {j:Nat} (hj:j<xs.length):(A::(Za8 ct xs++ex))[j+1]? =some (.row ct xs[j] true):=by
 rw[List.getElem?_cons_succ,List.getElem?_append_left (by rw[Zaw];exact hj),ZeJ hj]
theorem Zqh {A:SM} {ct:CT} {xs:List (List ct.D)} {ex:List SM} {j:Nat} (hj:xs.length≤j):(A::(Za8 ct xs++ex))[j+1]? =ex[j-xs.length]? :=by
 rw[List.getElem?_cons_succ,List.getElem?_append_right (by rw[Zaw];exact hj),Zaw]
def swI (a b j:Nat):Nat:=if j=a then b else if j=b then a else j
theorem Zxv {a b j n:Nat} (ha:a<n) (hb:b<n) (hj:j<n):swI a b j<n:=by
 unfold swI
 repeat' split
 all_goals omega
theorem Zww {F:Nat} {tm tm':TM} {ct:CT} {ex:List SM} {xs ys:List (List ct.D)} {a b la lb:Nat} (ha:a<xs.length) (hb:b<xs.length) (hla:xs[a].length=la) (hlb:xs[b].length=lb) (hl:ys.length=xs.length)
 (hy: ∀j (h1:j<ys.length) (h2:swI a b j<xs.length),ys[j]=xs[swI a b j]) (hF:F≤1) (hex: ∀m∈ex,Zg2 m=[]) (htm:ZBe (fun id=>id=0∨(xs.length<id∧id<xs.length+1+ex.length)) tm tm'):
 Ent F tm (.many (.l ct) (((ZaM 1 xs).set a (.ref (b+1) 0 lb none)).set b (.ref (a+1) 0 la none)) true::([]++(Za8 ct xs++ex))) tm' (.many (.l ct) (ZaM 1 ys) true::([]++(Za8 ct ys++ex))):=by
 subst hla hlb
 rw[List.nil_append,List.nil_append]
 have hlen: ∀A:SM,(A::(Za8 ct ys++ex)).length=xs.length+1+ex.length:=fun A=>by rw[List.length_cons,List.length_append,Zaw];omega
 have hlen0: ∀A:SM,(A::(Za8 ct xs++ex)).length=xs.length+1+ex.length:=fun A=>by rw[List.length_cons,List.length_append,Zaw];omega
 let f:Nat→Nat:=fun j=>match j with
  |0=>0
  |j+1=>swI a b j+1
 have fs: ∀j,f (j+1)=swI a b j+1:=fun _=>rfl
 have f0:f 0=0:=rfl
 have fbig: ∀j,xs.length<j→f j=j:=fun j hj=>by
  obtain⟨i,rfl⟩: ∃i,j=i+1:=⟨j-1,by omega⟩
  rw[fs];unfold swI;repeat' split
  all_goals omega
 have finj: ∀i j,f i=f j→i=j:=by
  intro i j h
  cases i with
  |zero=>cases j with
   |zero=>rfl
   |succ j=>rw[f0,fs]at h;omega
  |succ i=>cases j with
   |zero=>rw[f0,fs]at h;omega
   |succ j=>
    rw[fs,fs]at h
    unfold swI at h
    repeat' split at h
    all_goals omega
 have fle: ∀j,j<xs.length+1+ex.length→f j<xs.length+1+ex.length:=by
  intro j hj
  cases j with
  |zero=>omega
  |succ j=>
   rw[fs];unfold swI;repeat' split
   all_goals omega
 refine Zhb f ?_ ?_ ?_ ?_ ?_ ?_
 ·rw[hlen];omega
 ·intro j hj;rw[show j=0 by omega]
 ·intro j hj;rw[hlen]at hj;rw[hlen0];exact fle j hj
 ·exact fun i j _ _ h=>finj i j h
 ·refine Zml (fun id hid=> ?_) htm
  rw[hlen]
  rcases hid with rfl|⟨h1,h2⟩
  ·exact⟨rfl,by omega⟩
  ·exact⟨fbig id h1,h2⟩
 ·intro j m hm
  right
  cases j with
  |zero=>
   have hm:some (SM.many (.l ct) (ZaM 1 ys) true)=some m:=hm
   cases hm
   refine⟨?_,fun id hid=> ?_⟩
   ·show some (SM.many (.l ct) (((ZaM 1 xs).set a (.ref (b+1) 0 xs[b].length none)).set b (.ref (a+1) 0 xs[a].length none)) true)=some (SM.many (.l ct) (rnL f (ZaM 1 ys)) true)
    congr 2
    rw[Zox]
    apply List.ext_getElem?
    intro j
    rw[List.getElem?_map]
    by_cases hj:j<xs.length
    ·have hjy:j<ys.length:=by omega
     have hsw:=Zxv ha hb hj
     have e:=hy j hjy hsw
     rw[ZdL hjy]
     show _=some (SV.ref (f (j+1)) 0 ys[j].length none)
     rw[fs,e]
     by_cases hjb:j=b
     ·subst hjb
      rw[List.getElem?_set_self (by rw[List.length_set,ZaF];exact hj)]
      have:swI a j j=a:=by unfold swI;split<;>simp_all
      simp only[this]
     ·rw[List.getElem?_set_ne (fun e=>hjb e.symm)]
      by_cases hja:j=a
      ·subst hja
       rw[List.getElem?_set_self (by rw[ZaF];exact hj)]
       have:swI j b j=b:=by unfold swI;rw[if_pos rfl]
       simp only[this]
      ·rw[List.getElem?_set_ne (fun e=>hja e.symm),ZdL hj]
       have:swI a b j=j:=by unfold swI;rw[if_neg hja,if_neg hjb]
       simp only[this]
    ·rw[List.getElem?_eq_none (by rw[List.length_set,List.length_set,ZaF];omega),List.getElem?_eq_none (by rw[ZaF];omega)]
     rfl
   ·have:=ZfU (by simpa only[Zg2]using hid)
    rw[hlen];omega
  |succ j=>
   by_cases hj:j<xs.length
   ·have hjy:j<ys.length:=by omega
    rw[ZpJ hjy]at hm
    cases hm
    have hsw:=Zxv ha hb hj
    refine⟨?_,fun id hid=>by simp[Zg2]at hid⟩
    rw[fs,ZpJ hsw,hy j hjy hsw]
    rfl
   ·rw[Zqh (by omega)]at hm
    have hr:=hex m (List.mem_of_getElem? hm)
    refine⟨?_,fun id hid=>by rw[hr]at hid;exact absurd hid List.not_mem_nil⟩
    rw[fbig (j+1) (by omega),Zqh (by omega),←hl,hm,Zke (p:=0) (fun j hj=>absurd hj (Nat.not_lt_zero j)) m (fun id hid=>by rw[hr]at hid;exact absurd hid List.not_mem_nil)]
end
end Go.Tx
/-
 lin.Copy: a matrix as the caller's own rows.
-/
namespace Go.Proofs.YtdnodlkdndfplaaGreatDoor
open Go.Am Go.Tx Dv Go.Lib
set_option maxRecDepth 100000
def ZuL (p:Nat) (xs:List (List qct.D)) (n i:Nat):List SV:=ZaM p (xs.take i)++List.replicate (n-i) .nils
theorem ZjZ {α:Type} (y:List α): ∀ (p:Nat) (xs:List (List α)),ZaM p (xs++ [y])=ZaM p xs++ [.ref (xs.length+p) 0 y.length none]
 |p,[]=>by rw[List.nil_append,ZaM,ZaM,ZaM,List.length_nil,Nat.zero_add];rfl
 |p,x::r=>by rw[List.cons_append,ZaM,ZaM,ZjZ y (p+1) r,List.cons_append,List.length_cons,show r.length+(p+1)=r.length+1+p by omega]
theorem Zwg {p:Nat} {xs:List (List qct.D)} {i:Nat} (hi:i≤xs.length):(ZuL p xs xs.length i).length=xs.length:=by
 rw[ZuL,List.length_append,ZaF,List.length_take,List.length_replicate];omega
theorem Zvg {p i:Nat} {xs:List (List qct.D)} (hi:i<xs.length):(ZuL p xs xs.length i).set i (.ref (i+p) 0 xs[i].length none)=ZuL p xs xs.length (i+1):=by
 have h1:(ZaM p (xs.take i)).length=i:=by rw[ZaF,List.length_take];omega
 rw[ZuL,ZuL,List.set_append_right _ _ (by omega),h1,Nat.sub_self,show xs.length-i=(xs.length-(i+1))+1 by omega,List.replicate_succ,List.set_cons_zero,List.take_succ_eq_append_getElem hi,ZjZ,List.append_assoc,List.length_take,Nat.min_eq_left (by omega)]
 rfl
def Zn5 (hp0:List SM) (xs:List (List qct.D)) (i:Nat):List SM:=hp0++(.many (.l qct) (ZuL (hp0.length+1) xs xs.length i) true::Za8 qct (xs.take i))
theorem Zu3 {hp0:List SM} {xs:List (List qct.D)} {i:Nat} (hi:i≤xs.length):(Zn5 hp0 xs i).length=i+(hp0.length+1):=by
 rw[Zn5,List.length_append,List.length_cons,Zaw,List.length_take];omega
set_option maxHeartbeats 8000000 in
theorem ZzO (xs:List (List qct.D)) (hp0:List SM) (hl:xs.length≤1000) (hr: ∀x∈xs,x.length≤1000) (h0: ∀x∈xs,x≠ []):OpenOK Tryz.prog Zan 122 [.v (.l (.l qct)) xs] hp0 (fun V hp=>V= .ref hp0.length 0 xs.length none∧hp=hp0++(.many (.l qct) (ZaM (hp0.length+1) xs) true::Za8 qct xs)):=by
 refine Zr2 (fn:=Tryz.f122) (code:=Zb1 Tryz.f122) Zaa (by kernel_rfl) Tryz.func122 (by kernel_rfl) (Nat.le_of_ble_eq_true (by kernel_rfl)) ?_
 intro base
 refine And.intro (show 0≤(xs.length:Int)∧(xs.length:Int)≤(xs.length:Int)∧(24:Int)*(xs.length:Int)≤281474976710656∧(xs.length:Int)<9223372036854775808 by omega) ?_
 refine Zat Zaa rfl (fun(i:Nat)=> [(3, .ref hp0.length 0 xs.length none),(9, .v (.l (.l qct)) xs),(10, .v (.i .i64) (xs.length:Int)),(11, .v (.i .i64) (i:Int))]) (fun i=>Zn5 hp0 xs i)
  (fun i=>i≤xs.length) (fun i=>xs.length-i) ?_ 0 (Nat.zero_le _) ?_
 ·intro i hi
  refine And.intro (fun h=> ?_) (fun h=> ?_)
  ·have hlt:i<xs.length:=by have h':(i:Int)<(xs.length:Int):=of_decide_eq_true h;omega
   have gx:xs[(i:Int).toNat]? =some xs[i]:=by rw[Int.toNat_natCast];exact List.getElem?_eq_getElem hlt
   have hrl:=hr xs[i] (List.getElem_mem hlt)
   have hne:=h0 xs[i] (List.getElem_mem hlt)
   have wi:IntKind.i64.wrap ((i:Int)+1)=((i+1:Nat):Int):=Zah (by omega) (by omega)
   have hel:=Zwg (p:=hp0.length+1) (xs:=xs) (i:=i) (by omega)
   have hst:=Zvg (p:=hp0.length+1) hlt
   have hvl:=Zu3 (hp0:=hp0) (xs:=xs) (i:=i) (by omega)
   have ci:(0:Int)≤(i:Int)∧(i:Int)<(xs.length:Nat):=by omega
   have e1:Za8 qct (xs.take i)++ [SM.row qct xs[i] true]=Za8 qct (xs.take (i+1)):=by
    rw[List.take_succ_eq_append_getElem hlt,Za8,Za8,List.map_append];rfl
   obtain⟨row,erow⟩: ∃x,xs[i]=x:=⟨_,rfl⟩
   rw[erow]at gx hrl hne hst e1
   cases row with
   |nil=>exact absurd rfl hne
   |cons y r=>
    rw[List.length_cons]at hrl
    refine Zas ?_
    refine Zad ?_
    refine ZcM rfl (fun _=>rfl) (Int.natCast_nonneg i) gx rfl rfl ?_
    iterate 3 refine Zad ?_
    refine Zaq ?_
    refine Zas ?_
    iterate 3 refine Zad ?_
    refine Zag rfl (And.intro (show(r.length+1)*64≤140737488355328 by omega) ?_)
    refine Zab rfl rfl ?_
    refine Zag rfl (ZaD rfl rfl rfl rfl rfl (show nth (Zn5 hp0 xs i++_) _=some (.many (.l qct) (ZuL (hp0.length+1) xs xs.length i) true)from by rw[Zn5,List.append_assoc];exact ZeI) rfl ci ?_)
    refine Zab rfl rfl ?_
    refine Zag rfl (ZeD rfl rfl rfl (show nth (Zn5 hp0 xs i++_) _=some (.many (.l qct) (ZuL (hp0.length+1) xs xs.length i) true)from by rw[Zn5,List.append_assoc];exact ZeI) rfl rfl rfl (by omega) ?_)
    refine Zcb rfl ?_
    refine Zaq ?_
    refine⟨i+1,hlt,by show xs.length-(i+1)<xs.length-i;omega, ?_⟩
    have e0:0+(i:Int).toNat=i:=by rw[Int.toNat_natCast,Nat.zero_add]
    refine Ent.eqs (hp0:=Zn5 hp0 xs (i+1)) ?_ (Zap ⟨rfl,rfl,rfl,congrArg (fun x=>some (SV.v (.i .i64) x)) wi,trivial⟩)
    rw[Zn5,List.append_assoc,List.cons_append,Zuu,e0,Zn5]
    show hp0++(_::(Za8 qct (xs.take i)++ [SM.row qct (y::r) true]))=_
    rw[e1]
    congr 2
    rw[←hst,List.length_cons]
    show SM.many _ (List.set _ _ (.ref (Zn5 hp0 xs i).length 0 _ _)) _=_
    rw[hvl]
  ·have hi2:i=xs.length:=by have h': ¬ (i:Int)<(xs.length:Int):=of_decide_eq_false h;omega
   refine⟨rfl, ?_⟩
   show Zn5 hp0 xs i=_
   rw[Zn5,ZuL,hi2,Nat.sub_self,List.take_length,List.replicate_zero,List.append_nil]
 ·have e1:((xs.length:Nat):Int).toNat=xs.length:=Int.toNat_natCast _
  refine Ent.eqs (hp0:=Zn5 hp0 xs 0) ?_ (Zap ⟨congrArg (fun x=>some (SV.ref hp0.length 0 x none)) e1,rfl,rfl,rfl,trivial⟩)
  show hp0++ [SM.many (.l qct) (List.replicate ((xs.length:Nat):Int).toNat .nils) true]=Zn5 hp0 xs 0
  rw[e1]
  rfl
end Go.Proofs.YtdnodlkdndfplaaGreatDoor

/-
 stringslite.Index at a text of one byte: a primitive.
-/
import Derived.Test.YtdnodlkdndfplaaGreatDoorP5
import Derived.Test.YtdnodlkdndfplaaGreatDoorTxB
import Derived.Lay
import Derived.LaidSub
set_option linter.constructorNameAsVariable false
set_option linter.unusedSimpArgs false
set_option linter.unusedVariables false
namespace Go.Proofs.YtdnodlkdndfplaaGreatDoor
open Go.Shelf Go.RowKit Dv Go.Am
theorem ZkK: ∀qs v,indexG qs=some v→ ∀ (S:Nat→Prop) w vals,(∀b,S b→b<w.heap.size)→Laid.ok S w→LRel w S qs vals→
 Calls Tryz.prog 168 vals.toArray w fun e w'=> ∃u,e= .returned u∧Below w.heap.size w w'∧IRel w' (fun b=>S b∨(w.heap.size≤b∧b<w'.heap.size)) v u:=by
 intro qs v hv S w vals hS hL hr
 unfold indexG at hv
 split at hv
 ·rename_i s t
  split at hv
  ·rename_i c hc
   cases hv
   simp only[LRel,IRel]at hr
   obtain⟨_,_,rfl,rfl,_,_,rfl,rfl,rfl⟩:=hr
   have ht:t=⟨#[c]⟩:=by
    cases t with
    |mk d=>
     have h1:d.toList=[c]:=hc
     have h2:d= #[c]:=by rw[←Array.toList_inj,h1]
     rw[h2]
   subst ht
   refine(Any.stringslite_Index_one Tryz.lays219 s c w).mono ?_
   rintro e w' ⟨rfl,rfl⟩
   refine⟨_,rfl,Below.refl _ _, ?_⟩
   rw[ZsS]
   simp only[IRel]
  ·cases hv
 ·cases hv
end Go.Proofs.YtdnodlkdndfplaaGreatDoor
/-
 The primitives of the seat are sound; its text passes the static checks.
-/
namespace Go.Proofs.YtdnodlkdndfplaaGreatDoor
open Go.RowKit Go.Shelf Go.Lib Dv Go.Tx Go.Am
set_option maxRecDepth 100000
theorem Zs0:Zbu Tryz.prog Zau:=by
 intro f g hg
 have hg:prims f=some g:=hg
 unfold prims at hg
 split at hg
 ·cases hg;exact Zni
 ·cases hg;exact Zle
 ·cases hg;exact ZkK
 ·cases hg
theorem Zrw:Static Tryz.prog Zau:=ZfL Zom fun f hf=>by
 unfold prims at hf
 split at hf
 ·exact⟨_,Tryz.func126,by kernel_rfl,by kernel_rfl⟩
 ·exact⟨_,Tryz.func150,by kernel_rfl,by kernel_rfl⟩
 ·exact⟨_,Tryz.func168,by kernel_rfl,by kernel_rfl⟩
 ·cases hf
end Go.Proofs.YtdnodlkdndfplaaGreatDoor
/-
 What all laws of the seat share: from a walk's result to the given statement.
-/
namespace Go.Proofs.YtdnodlkdndfplaaGreatDoor
open Go.Am Go.Tx
set_option maxRecDepth 100000
theorem ZuB:ownKnob Tryz.prog.godebug=none:=by kernel_rfl
theorem ZqC:laidOutB Tryz.prog=true:=by kernel_rfl
abbrev ZdH:List (String×DataW Unit):=Rows.simplexChecksRow.laid
theorem ZrR {W:World} (h:laidMetH Tryz.prog ZdH W):Lib.TabIs Tryz.prog W Zdu .u64 Lib.pow10Tab:=by
 have h1:=laidMetH.filter (fun x=>x.1==Zdu) h
 rw[MakeChecks.laidMetH_plain _ _ _ (by kernel_rfl)]at h1
 exact Lib.tabIs_of_head (rest:=[]) (g:=3) (t:=232) (e:=172) (n:=20) (by kernel_rfl) (by kernel_rfl) (by kernel_rfl) (by kernel_rfl) (by kernel_rfl) (by kernel_rfl) h1
theorem Ztp {W:World} (h:laidMetH Tryz.prog ZdH W):natLaid.ok (fun b=>b<W.heap.size) W:=by
 have ht:=ZrR h
 refine⟨3,by kernel_rfl, ?_,ht⟩
 unfold Lib.TabIs World.var? at ht
 have hg:Tryz.prog.globalNamed Zdu=some 3:=by kernel_rfl
 rw[hg,Option.bind_some]at ht
 cases hb:W.heap[3]? with
 |none=>rw[hb]at ht;simp at ht
 |some o=>exact(Array.getElem?_eq_some_iff.1 hb).1
theorem Zma {n:Nat} {H:List Mem} {v:PV} {b:Bool} (h:exp n H v=some (.bool b)):v= .bool b:=by
 cases n with
 |zero=>simp[exp]at h
 |succ n=>cases v<;>simp only[exp]at h<;>first|(exact Option.some.inj h)|(cases h;done)|(rename_i a b c d;cases hx:H[a]? with
  |none=>rw[hx]at h;cases h
  |some m=>cases m<;>rw[hx]at h<;>simp only at h<;>first|(cases h;done)|(split at h<;>simp at h))|(rename_i a b c;cases hx:H[a]? with
  |none=>rw[hx]at h;cases h
  |some m=>cases m<;>rw[hx]at h<;>simp only at h<;>first|(cases h;done)|(simp[Option.bind_eq_some_iff]at h))|(simp[Option.bind_eq_some_iff]at h)
theorem ZqR {f:FuncId} {Vs:List SV} {qs:List PV} (hp:Zau.prim f=none) (h:PureOK Tryz.prog Zau f Vs (fun V=>V= .v .b true)) (hr:RL [] Vs qs): ∃n H',(Zch Tryz.prog Zau n).rn f qs []=some (.bool true,H'):=by
 obtain⟨q,V,h1,h2,rfl⟩:=h.out qs hr
 simp only[RV,RR]at h2
 have hq:q= .bool true:=by simpa using h2
 subst hq
 unfold Zbj at h1
 rw[hp]at h1
 obtain⟨⟨v,H'⟩,h3,h4⟩:=Option.bind_eq_some_iff.1 h1
 have hv:=Zma h4
 simp only at hv
 subst hv
 obtain⟨k,hk⟩:=Zo0 h3
 exact⟨k,H',hk⟩
end Go.Proofs.YtdnodlkdndfplaaGreatDoor
/-
 Arguments that are lists of lists of texts; lengths of arguments.
-/
namespace Go.Proofs.YtdnodlkdndfplaaGreatDoor
open Go.Am Go.Tx
theorem ZlV {ct:CT} {t:Ty} {good:ct.D→Prop} (hc: ∀c,Zco t c→ ∃x:ct.D,RR ct x c∧good x): ∀ {es:List (List PV)},(∀c∈es,Zco t c)→ ∃l:List ct.D,All2 (RR ct) l es∧(∀x∈l,good x)∧l.length=es.length
 | [],_=>⟨[],trivial,fun _ h=>absurd h List.not_mem_nil,rfl⟩
 |c::es,h=>by
  obtain⟨x,h1,h2⟩:=hc c (h c List.mem_cons_self)
  obtain⟨l,h3,h4,h5⟩:=ZlV hc (es:=es) (fun d hd=>h d (List.mem_cons_of_mem _ hd))
  refine⟨x::l,⟨h1,h3⟩,fun y hy=> ?_,by rw[List.length_cons,List.length_cons,h5]⟩
  rcases List.mem_cons.1 hy with rfl|hy
  ·exact h2
  ·exact h4 y hy
theorem ZeB {ct:CT} {t:Ty} {good:ct.D→Prop} {n:Nat} (hn:16≤n) (hc: ∀c,Zco t c→ ∃x:ct.D,RR ct x c∧good x): ∀c,Zco (.slice t n) c→ ∃l:List ct.D,RR (.l ct) l c∧(∀x∈l,good x)∧l.length≤8796093021952:=by
 intro c h
 simp only[Zco]at h
 rcases h with rfl|⟨es,rfl,_,h3,h4⟩
 ·exact⟨[],by simp[RR],fun _ h=>absurd h List.not_mem_nil,Nat.zero_le _⟩
 ·obtain⟨l,h5,h6,h7⟩:=ZlV hc h4
  refine⟨l,by simp only[RR];exact .inr ⟨es,rfl,h5⟩,h6, ?_⟩
  have e:reachBytes=140737488351232:=rfl
  have:es.length*16≤es.length*n:=Nat.mul_le_mul_left _ hn
  omega
theorem Zi5 (c:List PV) (h:Zco .str c): ∃a:List UInt8,RR .s a c∧a.length≤9223372036854775806:=by
 simp only[Zco]at h
 obtain⟨s,rfl,h2⟩:=h
 refine⟨s.data.toList,by simp only[RR], ?_⟩
 have h5:s.data.toList.length=s.size:=Array.length_toList
 have h6:reachBytes=140737488351232:=rfl
 omega
end Go.Proofs.YtdnodlkdndfplaaGreatDoor

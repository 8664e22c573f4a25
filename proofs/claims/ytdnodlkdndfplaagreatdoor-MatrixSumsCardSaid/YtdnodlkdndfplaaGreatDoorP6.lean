/-
 stringslite.Index at a text of one byte: a primitive.
-/
import Derived.Test.YtdnodlkdndfplaaGreatDoorP5
import Derived.Test.YtdnodlkdndfplaaGreatDoorTxB
import Derived.Lay
import Derived.LaidSub
set_option linter.constructorNameAsVariable false
set_option linter.unusedSimpArgs false
set_option linter.unusedVariables false
namespace Go.Proofs.YtdnodlkdndfplaaGreatDoor
open Go.Shelf Go.RowKit Dv Go.Am
theorem Zl3: ∀qs v,indexG qs=some v→ ∀ (S:Nat→Prop) w vals,(∀b,S b→b<w.heap.size)→Laid.ok S w→LRel w S qs vals→
 Calls Tryz.prog 168 vals.toArray w fun e w'=> ∃u,e= .returned u∧Below w.heap.size w w'∧IRel w' (fun b=>S b∨(w.heap.size≤b∧b<w'.heap.size)) v u:=by
 intro qs v hv S w vals hS hL hr
 unfold indexG at hv
 split at hv
 ·rename_i s t
  split at hv
  ·rename_i c hc
   cases hv
   simp only[LRel,IRel]at hr
   obtain⟨_,_,rfl,rfl,_,_,rfl,rfl,rfl⟩:=hr
   have ht:t=⟨#[c]⟩:=by
    cases t with
    |mk d=>
     have h1:d.toList=[c]:=hc
     have h2:d= #[c]:=by rw[←Array.toList_inj,h1]
     rw[h2]
   subst ht
   refine(Any.stringslite_Index_one Tryz.lays219 s c w).mono ?_
   rintro e w' ⟨rfl,rfl⟩
   refine⟨_,rfl,Below.refl _ _, ?_⟩
   rw[ZvC]
   simp only[IRel]
  ·cases hv
 ·cases hv
end Go.Proofs.YtdnodlkdndfplaaGreatDoor
/-
 The primitives of the seat are sound; its text passes the static checks.
-/
namespace Go.Proofs.YtdnodlkdndfplaaGreatDoor
open Go.RowKit Go.Shelf Go.Lib Dv Go.Tx Go.Am
set_option maxRecDepth 100000
theorem ZvN:ZbO Tryz.prog Zat:=by
 intro f g hg
 have hg:prims f=some g:=hg
 unfold prims at hg
 split at hg
 ·cases hg;exact Zo2
 ·cases hg;exact Zl0
 ·cases hg;exact Zl3
 ·cases hg
theorem Zvd:Static Tryz.prog Zat:=Zgg Zq3 fun f hf=>by
 unfold prims at hf
 split at hf
 ·exact⟨_,Tryz.func126,by kernel_rfl,by kernel_rfl⟩
 ·exact⟨_,Tryz.func150,by kernel_rfl,by kernel_rfl⟩
 ·exact⟨_,Tryz.func168,by kernel_rfl,by kernel_rfl⟩
 ·cases hf
end Go.Proofs.YtdnodlkdndfplaaGreatDoor
/-
 What all laws of the seat share: from a walk's result to the given statement.
-/
namespace Go.Proofs.YtdnodlkdndfplaaGreatDoor
open Go.Am Go.Tx
set_option maxRecDepth 100000
theorem ZxP:ownKnob Tryz.prog.godebug=none:=by kernel_rfl
theorem ZsC:laidOutB Tryz.prog=true:=by kernel_rfl
abbrev Zed:List (String×DataW Unit):=Rows.matrixSumsRow.laid
theorem Zu4 {W:World} (h:laidMetH Tryz.prog Zed W):Lib.TabIs Tryz.prog W ZdZ .u64 Lib.pow10Tab:=by
 have h1:=laidMetH.filter (fun x=>x.1==ZdZ) h
 rw[MakeChecks.laidMetH_plain _ _ _ (by kernel_rfl)]at h1
 exact Lib.tabIs_of_head (rest:=[]) (g:=3) (t:=232) (e:=172) (n:=20) (by kernel_rfl) (by kernel_rfl) (by kernel_rfl) (by kernel_rfl) (by kernel_rfl) (by kernel_rfl) h1
theorem Zwk {W:World} (h:laidMetH Tryz.prog Zed W):natLaid.ok (fun b=>b<W.heap.size) W:=by
 have ht:=Zu4 h
 refine⟨3,by kernel_rfl, ?_,ht⟩
 unfold Lib.TabIs World.var? at ht
 have hg:Tryz.prog.globalNamed ZdZ=some 3:=by kernel_rfl
 rw[hg,Option.bind_some]at ht
 cases hb:W.heap[3]? with
 |none=>rw[hb]at ht;simp at ht
 |some o=>exact(Array.getElem?_eq_some_iff.1 hb).1
theorem Zoe {n:Nat} {H:List Mem} {v:PV} {b:Bool} (h:exp n H v=some (.bool b)):v= .bool b:=by
 cases n with
 |zero=>simp[exp]at h
 |succ n=>cases v<;>simp only[exp]at h<;>first|(exact Option.some.inj h)|(cases h;done)|(rename_i a b c d;cases hx:H[a]? with
  |none=>rw[hx]at h;cases h
  |some m=>cases m<;>rw[hx]at h<;>simp only at h<;>first|(cases h;done)|(split at h<;>simp at h))|(rename_i a b c;cases hx:H[a]? with
  |none=>rw[hx]at h;cases h
  |some m=>cases m<;>rw[hx]at h<;>simp only at h<;>first|(cases h;done)|(simp[Option.bind_eq_some_iff]at h))|(simp[Option.bind_eq_some_iff]at h)
theorem Zte {f:FuncId} {Vs:List SV} {qs:List PV} (hp:Zat.prim f=none) (h:PureOK Tryz.prog Zat f Vs (fun V=>V= .v .b true)) (hr:RL [] Vs qs): ∃n H',(ZcD Tryz.prog Zat n).rn f qs []=some (.bool true,H'):=by
 obtain⟨q,V,h1,h2,rfl⟩:=h.out qs hr
 simp only[RV,RR]at h2
 have hq:q= .bool true:=by simpa using h2
 subst hq
 unfold Zbr at h1
 rw[hp]at h1
 obtain⟨⟨v,H'⟩,h3,h4⟩:=Option.bind_eq_some_iff.1 h1
 have hv:=Zoe h4
 simp only at hv
 subst hv
 obtain⟨k,hk⟩:=Zp2 h3
 exact⟨k,H',hk⟩
theorem Zum {p:PV} (hs:Zly .str p): ∃s,RV [] (.v .s s) p∧s.length≤9223372036854775806:=by
 have h:Zb8 .str [p]:=hs
 simp only[Zb8]at h
 obtain⟨n,h1,h2⟩:=h
 have h1:p= .str n:=by simpa using h1
 subst h1
 refine⟨n.data.toList,by simp only[RV,RR], ?_⟩
 have h3:n.data.toList.length=n.size:=Array.length_toList
 have h4:reachBytes=140737488351232:=rfl
 omega
theorem ZuH {k:IntKind} {p:PV} (hs:Zly (.int k) p): ∃n,RV [] (.v (.i k) n) p∧(Lit.int k n).wf=true:=by
 have h:Zb8 (.int k) [p]:=hs
 simp only[Zb8]at h
 obtain⟨n,h1,h2⟩:=h
 have h1:p= .int k n:=by simpa using h1
 subst h1
 exact⟨n,by simp only[RV,RR],h2⟩
end Go.Proofs.YtdnodlkdndfplaaGreatDoor
/-
 Arguments that are lists of lists of texts; lengths of arguments.
-/
namespace Go.Proofs.YtdnodlkdndfplaaGreatDoor
open Go.Am Go.Tx
theorem Zna {ct:CT} {t:Ty} {good:ct.D→Prop} (hc: ∀c,Zb8 t c→ ∃x:ct.D,RR ct x c∧good x): ∀ {es:List (List PV)},(∀c∈es,Zb8 t c)→ ∃l:List ct.D,All2 (RR ct) l es∧(∀x∈l,good x)∧l.length=es.length
 | [],_=>⟨[],trivial,fun _ h=>absurd h List.not_mem_nil,rfl⟩
 |c::es,h=>by
  obtain⟨x,h1,h2⟩:=hc c (h c List.mem_cons_self)
  obtain⟨l,h3,h4,h5⟩:=Zna hc (es:=es) (fun d hd=>h d (List.mem_cons_of_mem _ hd))
  refine⟨x::l,⟨h1,h3⟩,fun y hy=> ?_,by rw[List.length_cons,List.length_cons,h5]⟩
  rcases List.mem_cons.1 hy with rfl|hy
  ·exact h2
  ·exact h4 y hy
theorem ZkE {ct:CT} {t:Ty} {good:ct.D→Prop} {n:Nat} (hn:16≤n) (hc: ∀c,Zb8 t c→ ∃x:ct.D,RR ct x c∧good x): ∀c,Zb8 (.slice t n) c→ ∃l:List ct.D,RR (.l ct) l c∧(∀x∈l,good x)∧l.length≤8796093021952:=by
 intro c h
 simp only[Zb8]at h
 rcases h with rfl|⟨es,rfl,_,h3,h4⟩
 ·exact⟨[],by simp[RR],fun _ h=>absurd h List.not_mem_nil,Nat.zero_le _⟩
 ·obtain⟨l,h5,h6,h7⟩:=Zna hc h4
  refine⟨l,by simp only[RR];exact .inr ⟨es,rfl,h5⟩,h6, ?_⟩
  have e:reachBytes=140737488351232:=rfl
  have:es.length*16≤es.length*n:=Nat.mul_le_mul_left _ hn
  omega
theorem Ztx (c:List PV) (h:Zb8 .str c): ∃a:List UInt8,RR .s a c∧a.length≤9223372036854775806:=by
 simp only[Zb8]at h
 obtain⟨s,rfl,h2⟩:=h
 refine⟨s.data.toList,by simp only[RR], ?_⟩
 have h5:s.data.toList.length=s.size:=Array.length_toList
 have h6:reachBytes=140737488351232:=rfl
 omega
theorem Zrj {p:PV} (hs:Zly (.slice (.slice .str 16) 24) p): ∃l:List (List (List UInt8)),RV [] (.v (.l (.l .s)) l) p∧ ∀r∈l,∀a∈r,a.length≤9223372036854775806:=by
 obtain⟨l,h1,h2,_⟩:=ZkE (ct:= .l .s) (n:=24) (by decide) (fun c h=>by
  obtain⟨r,h1,h2,_⟩:=ZkE (ct:= .s) (n:=16) (Nat.le_refl _) Ztx c h
  exact⟨r,h1,h2⟩) [p] hs
 exact⟨l,h1,h2⟩
end Go.Proofs.YtdnodlkdndfplaaGreatDoor

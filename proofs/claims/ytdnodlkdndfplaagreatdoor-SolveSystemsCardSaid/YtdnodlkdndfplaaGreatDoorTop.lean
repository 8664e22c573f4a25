/-
 What all laws of the seat share: from a walk's result to the given statement.
-/
import Derived.Test.YtdnodlkdndfplaaGreatDoorP5
import Derived.Test.YtdnodlkdndfplaaGreatDoorTxB
import Derived.Lay
import Derived.LaidSub
set_option linter.constructorNameAsVariable false
set_option linter.unusedSimpArgs false
set_option linter.unusedVariables false
namespace Go.Proofs.YtdnodlkdndfplaaGreatDoor
open Go.Am Go.Tx
set_option maxRecDepth 100000
theorem ZCr:ownKnob Tryz.prog.godebug=none:=by kernel_rfl
theorem Zvt:laidOutB Tryz.prog=true:=by kernel_rfl
abbrev Ze6:List (String×DataW Unit):=Rows.solveSystemsRow.laid
theorem Zy7 {W:World} (h:laidMetH Tryz.prog Ze6 W):Lib.TabIs Tryz.prog W ZeE .u64 Lib.pow10Tab:=by
 have h1:=laidMetH.filter (fun x=>x.1==ZeE) h
 rw[MakeChecks.laidMetH_plain _ _ _ (by kernel_rfl)]at h1
 exact Lib.tabIs_of_head (rest:=[]) (g:=3) (t:=232) (e:=172) (n:=20) (by kernel_rfl) (by kernel_rfl) (by kernel_rfl) (by kernel_rfl) (by kernel_rfl) (by kernel_rfl) h1
theorem ZAc {W:World} (h:laidMetH Tryz.prog Ze6 W):natLaid.ok (fun b=>b<W.heap.size) W:=by
 have ht:=Zy7 h
 refine⟨3,by kernel_rfl, ?_,ht⟩
 unfold Lib.TabIs World.var? at ht
 have hg:Tryz.prog.globalNamed ZeE=some 3:=by kernel_rfl
 rw[hg,Option.bind_some]at ht
 cases hb:W.heap[3]? with
 |none=>rw[hb]at ht;simp at ht
 |some o=>exact(Array.getElem?_eq_some_iff.1 hb).1
theorem Zpt {n:Nat} {H:List Mem} {v:PV} {b:Bool} (h:exp n H v=some (.bool b)):v= .bool b:=by
 cases n with
 |zero=>simp[exp]at h
 |succ n=>cases v<;>simp only[exp]at h<;>first|(exact Option.some.inj h)|(cases h;done)|(rename_i a b c d;cases hx:H[a]? with
  |none=>rw[hx]at h;cases h
  |some m=>cases m<;>rw[hx]at h<;>simp only at h<;>first|(cases h;done)|(split at h<;>simp at h))|(rename_i a b c;cases hx:H[a]? with
  |none=>rw[hx]at h;cases h
  |some m=>cases m<;>rw[hx]at h<;>simp only at h<;>first|(cases h;done)|(simp[Option.bind_eq_some_iff]at h))|(simp[Option.bind_eq_some_iff]at h)
theorem Zu8 {f:FuncId} {Vs:List SV} {qs:List PV} (hp:Zan.prim f=none) (h:PureOK Tryz.prog Zan f Vs (fun V=>V= .v .b true)) (hr:RL [] Vs qs): ∃n H',(Zex Tryz.prog Zan n).rn f qs []=some (.bool true,H'):=by
 obtain⟨q,V,h1,h2,rfl⟩:=h.out qs hr
 simp only[RV,RR]at h2
 have hq:q= .bool true:=by simpa using h2
 subst hq
 unfold Zby at h1
 rw[hp]at h1
 obtain⟨⟨v,H'⟩,h3,h4⟩:=Option.bind_eq_some_iff.1 h1
 have hv:=Zpt h4
 simp only at hv
 subst hv
 obtain⟨k,hk⟩:=ZtU h3
 exact⟨k,H',hk⟩
end Go.Proofs.YtdnodlkdndfplaaGreatDoor
/-
 Arguments that are lists of lists of texts; lengths of arguments.
-/
namespace Go.Proofs.YtdnodlkdndfplaaGreatDoor
open Go.Am Go.Tx
theorem Zqo {ct:CT} {t:Ty} {good:ct.D→Prop} (hc: ∀c,Zc9 t c→ ∃x:ct.D,RR ct x c∧good x): ∀ {es:List (List PV)},(∀c∈es,Zc9 t c)→ ∃l:List ct.D,All2 (RR ct) l es∧(∀x∈l,good x)∧l.length=es.length
 | [],_=>⟨[],trivial,fun _ h=>absurd h List.not_mem_nil,rfl⟩
 |c::es,h=>by
  obtain⟨x,h1,h2⟩:=hc c (h c List.mem_cons_self)
  obtain⟨l,h3,h4,h5⟩:=Zqo hc (es:=es) (fun d hd=>h d (List.mem_cons_of_mem _ hd))
  refine⟨x::l,⟨h1,h3⟩,fun y hy=> ?_,by rw[List.length_cons,List.length_cons,h5]⟩
  rcases List.mem_cons.1 hy with rfl|hy
  ·exact h2
  ·exact h4 y hy
theorem Zig {ct:CT} {t:Ty} {good:ct.D→Prop} {n:Nat} (hn:16≤n) (hc: ∀c,Zc9 t c→ ∃x:ct.D,RR ct x c∧good x): ∀c,Zc9 (.slice t n) c→ ∃l:List ct.D,RR (.l ct) l c∧(∀x∈l,good x)∧l.length≤8796093021952:=by
 intro c h
 simp only[Zc9]at h
 rcases h with rfl|⟨es,rfl,_,h3,h4⟩
 ·exact⟨[],by simp[RR],fun _ h=>absurd h List.not_mem_nil,Nat.zero_le _⟩
 ·obtain⟨l,h5,h6,h7⟩:=Zqo hc h4
  refine⟨l,by simp only[RR];exact .inr ⟨es,rfl,h5⟩,h6, ?_⟩
  have e:reachBytes=140737488351232:=rfl
  have:es.length*16≤es.length*n:=Nat.mul_le_mul_left _ hn
  omega
theorem Zpk (c:List PV) (h:Zc9 .str c): ∃a:List UInt8,RR .s a c∧a.length≤9223372036854775806:=by
 simp only[Zc9]at h
 obtain⟨s,rfl,h2⟩:=h
 refine⟨s.data.toList,by simp only[RR], ?_⟩
 have h5:s.data.toList.length=s.size:=Array.length_toList
 have h6:reachBytes=140737488351232:=rfl
 omega
theorem Zwb {p:PV} (hs:Zqp (.slice .str 16) p): ∃l:List (List UInt8),RV [] (.v (.l .s) l) p∧(∀a∈l,a.length≤9223372036854775806)∧l.length≤8796093021952:=
 Zig (ct:= .s) (Nat.le_refl _) Zpk [p] hs
theorem ZxI {p:PV} (hs:Zqp (.slice (.slice .str 16) 24) p): ∃l:List (List (List UInt8)),RV [] (.v (.l (.l .s)) l) p∧ ∀r∈l,∀a∈r,a.length≤9223372036854775806:=by
 obtain⟨l,h1,h2,_⟩:=Zig (ct:= .l .s) (n:=24) (by decide) (fun c h=>by
  obtain⟨r,h1,h2,_⟩:=Zig (ct:= .s) (n:=16) (Nat.le_refl _) Zpk c h
  exact⟨r,h1,h2⟩) [p] hs
 exact⟨l,h1,h2⟩
end Go.Proofs.YtdnodlkdndfplaaGreatDoor

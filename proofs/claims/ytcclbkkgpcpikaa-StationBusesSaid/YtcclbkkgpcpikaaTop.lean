/-
  Reading of arguments; what all laws of the seat share.
-/
import Derived.Test.YtcclbkkgpcpikaaFn
import Derived.ProofKit
import Derived.SizedLaws
set_option linter.unusedSimpArgs false
set_option linter.unusedVariables false
namespace Go.Proofs.Ytcclbkkgpcpikaa
open Go.Am
set_option maxRecDepth 100000
theorem list_get {α : Type} {e : Am.Ty} {enc : α → List PV} {R : α → Prop} (h : ∀ c, HasTy e c → ∃ a, c = enc a ∧ R a) : ∀ es : List (List PV), (∀ c ∈ es, HasTy e c) → ∃ l : List α, es = l.map enc ∧ ∀ a ∈ l, R a
  | [], _ => ⟨[], rfl, by simp⟩
  | c :: es, hc => by
    obtain ⟨a, rfl, ha⟩ := h c (hc c List.mem_cons_self)
    obtain ⟨l, rfl, hl⟩ := list_get h es fun x hx => hc x (List.mem_cons_of_mem _ hx)
    exact ⟨a :: l, rfl, fun x hx => (List.mem_cons.1 hx).elim (fun e => e ▸ ha) (hl x)⟩
theorem slice_get {α : Type} {e : Am.Ty} {by_ : Nat} {enc : α → List PV} {R : α → Prop} (h : ∀ c, HasTy e c → ∃ a, c = enc a ∧ R a) {cs : List PV} (hs : HasTy (.slice e by_) cs) : ∃ q, ∃ l : List α, cs = [q] ∧ Sl q (l.map enc) ∧ (∀ a ∈ l, R a) ∧ l.length ≤ maxLen := by
  simp only [HasTy] at hs
  rcases hs with rfl | ⟨es, rfl, hm, _, hc⟩
  · exact ⟨.nils, [], rfl, .inl ⟨rfl, rfl⟩, by simp, Nat.zero_le _⟩
  · obtain ⟨l, rfl, hl⟩ := list_get h es hc
    exact ⟨.lst (l.map enc), l, rfl, .inr rfl, hl, by simpa using hm⟩
theorem arg_str {p : PV} (hs : HasArg .str p) : ∃ s, p = .str s ∧ s.size ≤ reachBytes := by
  have h : HasTy .str [p] := hs
  simp only [HasTy] at h
  obtain ⟨n, h1, h2⟩ := h
  exact ⟨n, by simpa using h1, h2⟩
theorem own0 : ownKnob Try.prog.godebug = none := by kernel_rfl
theorem laidOut0 : laidOutB Try.prog = true := by kernel_rfl
end Go.Proofs.Ytcclbkkgpcpikaa

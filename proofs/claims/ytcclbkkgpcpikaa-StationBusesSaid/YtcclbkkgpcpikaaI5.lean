/-
  The plain law of shortest ways in a graph.
-/
import Derived.Test.YtcclbkkgpcpikaaI3
import Derived.Test.YtcclbkkgpcpikaaH9
set_option linter.unusedSimpArgs false
set_option linter.unusedVariables false
namespace Go.Proofs.Ytcclbkkgpcpikaa
/-! ways by length, as the reference looks for them -/
/-- There is a way of a length. -/
def Wk (l : List (Nat × Nat)) (to : Nat) : Nat → Nat → Prop
  | 0, u => u = to
  | L + 1, u => ∃ (k : Nat) (x : Nat × Nat), l[k]? = some x ∧ touch x u = true ∧ Wk l to L (oth x u)
section
variable {l : List (Nat × Nat)} {n to : Nat}
/-- What the search keeps, further. -/
structure Bfs (n : Nat) (l : List (Nat × Nat)) (to : Nat) (out : List Int) (todo : List Nat) : Prop where
  inv : InvP n out todo
  lo : ∀ v, -1 ≤ out.getD v 0
  tob : to < n ∧ out.getD to 0 = 0
  snd : ∀ v, v < n → 0 ≤ out.getD v 0 → Wk l to (out.getD v 0).toNat v
  srt : todo.Pairwise fun a b => out.getD a 0 ≤ out.getD b 0
  wid : ∀ a ∈ todo, ∀ b ∈ todo, out.getD b 0 ≤ out.getD a 0 + 1
  done : ∀ v, v < n → 0 ≤ out.getD v 0 → v ∉ todo → (∀ (k : Nat) (x : Nat × Nat), l[k]? = some x → touch x v = true → 0 ≤ out.getD (oth x v) 0 ∧ out.getD (oth x v) 0 ≤ out.getD v 0 + 1) ∧ ∀ t ∈ todo, out.getD v 0 ≤ out.getD t 0
end
end Go.Proofs.Ytcclbkkgpcpikaa

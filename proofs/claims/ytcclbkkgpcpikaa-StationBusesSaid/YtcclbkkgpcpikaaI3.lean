import Derived.Test.YtcclbkkgpcpikaaI2
set_option linter.unusedSimpArgs false
set_option linter.unusedVariables false
namespace Go.Proofs.Ytcclbkkgpcpikaa
open Go.Am
set_option maxRecDepth 100000
/-- What the way back needs of the far ends. -/
structure FarOk (n : Nat) (l : List (Nat × Nat)) (to : Nat) (far : List Int) : Prop where
  len : far.length = n
  lo : ∀ v, v < n → -1 ≤ far.getD v 0
  hi : ∀ (v d : Nat), far[v]? = some (d : Int) → d ≤ 100
  zero : ∀ v, v < n → (far.getD v 0 = 0 ↔ v = to)
  step : ∀ (v d : Nat), v < n → far[v]? = some ((d + 1 : Nat) : Int) → ∃ k, fndK l far v l.length 0 = some k
/-! Path -/
def outR (n x : Int) : Bool := decide (x < 0) || decide (n ≤ x)
end Go.Proofs.Ytcclbkkgpcpikaa

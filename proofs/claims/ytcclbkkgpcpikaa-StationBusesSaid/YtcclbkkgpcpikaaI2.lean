import Derived.Test.YtcclbkkgpcpikaaI1
set_option linter.unusedSimpArgs false
set_option linter.unusedVariables false
namespace Go.Proofs.Ytcclbkkgpcpikaa
open Go.Am
set_option maxRecDepth 100000
/-- What the search keeps. -/
structure InvP (n : Nat) (out : List Int) (todo : List Nat) : Prop where
  len : out.length = n
  sum : cnt out + todo.length ≤ n
  lab : ∀ v ∈ todo, v < n ∧ ∃ d : Nat, out[v]? = some (d : Int)
  bnd : ∀ (v d : Nat), out[v]? = some (d : Int) → d + cnt out + 1 ≤ n
/-! the way back -/
def goodK (l : List (Nat × Nat)) (far : List Int) (at_ k : Nat) : Bool := match l[k]? with
  | some x => touch x at_ && decide (far.getD (oth x at_) 0 = far.getD at_ 0 - 1)
  | none => false
def fndK (l : List (Nat × Nat)) (far : List Int) (at_ : Nat) : Nat → Nat → Option Nat
  | 0, _ => none
  | c + 1, k => if goodK l far at_ k = true then some k else fndK l far at_ c (k + 1)
end Go.Proofs.Ytcclbkkgpcpikaa

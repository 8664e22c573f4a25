/-
  The package nat in plain Lean: what its functions answer on texts.
-/
import Derived.Test.YtlnimeapichgmaaDoorDp
import Derived.Test.YtlnimeapichgmaaDoorW1
set_option linter.constructorNameAsVariable false
set_option linter.unusedSimpArgs false
set_option linter.unusedVariables false
namespace Dv
open Go Go.Am Go.Lib
/-- Is a text canonical? -/
def cnB (s : List UInt8) : Bool := digB s && (!s.isEmpty && !(decide (1 < s.length) && s.head? == some 48))
/-- nat.Check. -/
def natErr (s : List UInt8) : Int := match cnB s with
  | false => 5
  | true => match Nat.ble s.length 2000 with
    | true => 0
    | false => 2
theorem digB_iff {s : List UInt8} : digB s = true ↔ Dg s := by
  unfold digB
  rw [List.all_eq_true]
  refine forall_congr' fun c => forall_congr' fun _ => ?_
  rw [Bool.and_eq_true, Nat.ble_eq, Nat.ble_eq]
theorem cnB_iff {s : List UInt8} : cnB s = true ↔ Cn s := by
  simp only [cnB, Bool.and_eq_true, digB_iff, Bool.not_eq_true', Bool.and_eq_false_iff, decide_eq_false_iff_not, beq_eq_false_iff_ne, List.isEmpty_eq_false_iff, Cn, ne_eq]
  constructor
  · rintro ⟨h1, h2, h3⟩
    exact ⟨h2, h1, fun h => h3.resolve_left (by omega)⟩
  · rintro ⟨h1, h2, h3⟩
    refine ⟨h2, h1, ?_⟩
    by_cases h : 1 < s.length
    · exact .inr (h3 h)
    · exact .inl h
end Dv

/-
  The package nat in plain Lean: what its functions answer on texts.
-/
import Derived.Test.YtlnimeapichgmaaDoorW0
import Derived.Test.YtlnimeapichgmaaDoorW1
set_option linter.constructorNameAsVariable false
set_option linter.unusedSimpArgs false
set_option linter.unusedVariables false
namespace Dv
open Go Go.Am Go.Lib
/-- Is a text canonical? -/
def cnB (s : List UInt8) : Bool := digB s && (!s.isEmpty && !(decide (1 < s.length) && s.head? == some 48))
/-- nat.Check. -/
def natErr (s : List UInt8) : Int := match cnB s with
  | false => 5
  | true => match Nat.ble s.length 2000 with
    | true => 0
    | false => 2
theorem digB_iff {s : List UInt8} : digB s = true ↔ Dg s := by
  unfold digB
  rw [List.all_eq_true]
  refine forall_congr' fun c => forall_congr' fun _ => ?_
  rw [Bool.and_eq_true, Nat.ble_eq, Nat.ble_eq]
theorem cnB_iff {s : List UInt8} : cnB s = true ↔ Cn s := by
  simp only [cnB, Bool.and_eq_true, digB_iff, Bool.not_eq_true', Bool.and_eq_false_iff, decide_eq_false_iff_not, beq_eq_false_iff_ne, List.isEmpty_eq_false_iff, Cn, ne_eq]
  constructor
  · rintro ⟨h1, h2, h3⟩
    exact ⟨h2, h1, fun h => h3.resolve_left (by omega)⟩
  · rintro ⟨h1, h2, h3⟩
    refine ⟨h2, h1, ?_⟩
    by_cases h : 1 < s.length
    · exact .inr (h3 h)
    · exact .inl h
theorem natErr_zero {s : List UInt8} (h : natErr s = 0) : Cn s ∧ s.length ≤ 2000 := by
  unfold natErr at h
  split at h
  · cases h
  · rename_i hc
    split at h
    · rename_i hl
      exact ⟨cnB_iff.1 hc, Nat.le_of_ble_eq_true hl⟩
    · cases h
theorem natErr_of {s : List UInt8} (h : Cn s) (hl : s.length ≤ 2000) : natErr s = 0 := by
  simp only [natErr, cnB_iff.2 h, Nat.ble_eq_true_of_le hl]
/-- What nat.text answers. -/
def natT (n : Nat) : List UInt8 × Int := match Nat.ble (decDigits n).length 2000 with
  | true => (decDigits n, 0)
  | false => ([], 2)
theorem natT_small {n : Nat} (h : n < 10 ^ 2000) : natT n = (decDigits n, 0) := by
  have : Nat.ble (decDigits n).length 2000 = true := Nat.ble_eq_true_of_le ((digits_len (k:=2000) (by decide)).2 h)
  simp only [natT, this]
theorem text_eq (n : Nat) : textF (wOf n) = Nat.ble (decDigits n).length 2000 ∧ (Nat.ble (decDigits n).length 2000 = true → ∀ m, textB m (wOf n) = (match decide (n = 0), m with | false, true => [45] | _, _ => []) ++ decDigits n) := by
  by_cases h0 : n = 0
  · subst h0
    rw [wOf_zero, decDigits_one (by decide)]
    refine ⟨rfl, fun _ m => ?_⟩
    cases m <;> rfl
  · have hne : (wOf n).isEmpty = false := by
      rw [List.isEmpty_eq_false_iff, ne_eq, wOf_nil]; exact h0
    have hd0 : decide (n = 0) = false := decide_eq_false h0
    by_cases hl : (wOf n).length ≤ 210
    · have hb : Nat.ble (wOf n).length 210 = true := Nat.ble_eq_true_of_le hl
      have hlt : n < 10 ^ 2100 := Nat.lt_trans (wOf_len.1 hl) (by decide +kernel)
      have hv : (wv (wOf n)).toNat = n := by rw [wv_wOf]; omega
      have hdig : digF 2100 n = decDigits n := digF_eq 2100 n (by decide) hlt
      refine ⟨by simp only [textF, hne, hb, hv, hdig], fun _ m => ?_⟩
      simp only [textB, hne, hb, hv, hdig, hd0]
      cases m <;> rfl
    · have hb : Nat.ble (wOf n).length 210 = false := by
        cases hb : Nat.ble (wOf n).length 210 with
        | false => rfl
        | true => exact absurd (Nat.le_of_ble_eq_true hb) hl
      have hge : 10 ^ 2000 ≤ n := by
        rcases Nat.lt_or_ge n (10 ^ 2000) with h | h
        · exact absurd (wOf_len.2 (Nat.lt_trans h (by decide +kernel))) hl
        · exact h
      have hbl : Nat.ble (decDigits n).length 2000 = false := by
        cases hbl : Nat.ble (decDigits n).length 2000 with
        | false => rfl
        | true =>
          have := (digits_len (by decide)).1 (Nat.le_of_ble_eq_true hbl)
          omega
      exact ⟨by simp only [textF, hne, hb, hbl], fun h => by rw [hbl] at h; cases h⟩
def twoE (a b : List UInt8) : Int := match decide (natErr a = 0) with
  | true => natErr b
  | false => natErr a
theorem twoE_zero {a b : List UInt8} (h : twoE a b = 0) : natErr a = 0 ∧ natErr b = 0 := by
  unfold twoE at h
  split at h
  · rename_i h1; exact ⟨of_decide_eq_true h1, h⟩
  · rename_i h1; exact absurd h (of_decide_eq_false h1)
end Dv

/-
  The reference's decimal arithmetic in plain Lean: digits, the least one first.
-/
import Derived.Test.YtlnimeapichgmaaGreatDoorT19
set_option linter.constructorNameAsVariable false
set_option linter.unusedSimpArgs false
set_option linter.unusedVariables false
namespace Dv
open Go Go.Lib
/-- Digits' value, the least one first. -/
def dv : List Int → Int
  | [] => 0
  | d :: l => d + 10 * dv l
theorem dv_app : ∀ (l : List Int) (d : Int), dv (l ++ [d]) = dv l + 10 ^ l.length * d
  | [], d => by simp [dv]
  | x :: l, d => by
    simp only [List.cons_append, dv, dv_app l d, List.length_cons, Int.pow_succ]
    grind
def D9 (l : List Int) : Prop := ∀ d ∈ l, 0 ≤ d ∧ d ≤ 9
theorem dv_nonneg : ∀ {l : List Int}, (∀ d ∈ l, 0 ≤ d) → 0 ≤ dv l
  | [], _ => Int.le_refl _
  | x :: l, h => by
    have h1 := h x List.mem_cons_self
    have h2 := dv_nonneg (l := l) fun y hy => h y (List.mem_cons_of_mem _ hy)
    simp only [dv]; omega
theorem dv_lt : ∀ {l : List Int}, D9 l → dv l < 10 ^ l.length
  | [], _ => by simp [dv]
  | x :: l, h => by
    have h1 := h x List.mem_cons_self
    have h2 := dv_lt (l := l) fun y hy => h y (List.mem_cons_of_mem _ hy)
    simp only [dv, List.length_cons, Int.pow_succ]; omega
theorem dv_take {l : List Int} {i : Nat} (h : i < l.length) : dv (l.take (i + 1)) = dv (l.take i) + 10 ^ i * l[i] := by
  rw [List.take_succ_eq_append_getElem h, dv_app, List.length_take, Nat.min_eq_left (Nat.le_of_lt h)]
theorem dv_set : ∀ {l : List Int} {i : Nat} {x : Int} (h : i < l.length), dv (l.set i x) = dv l + 10 ^ i * (x - l[i])
  | [], i, x, h => by simp at h
  | y :: l, 0, x, _ => by simp only [List.set_cons_zero, dv, List.getElem_cons_zero, Int.pow_zero]; omega
  | y :: l, i + 1, x, h => by
    have ih := dv_set (l := l) (i := i) (x := x) (by simpa using h)
    simp only [List.set_cons_succ, dv, List.getElem_cons_succ, ih, Int.pow_succ]
    grind
/-- The bytes of digits, the greatest one first. -/
def chars (l : List Int) : List UInt8 := l.reverse.map fun d => UInt8.ofNat (48 + d).toNat
theorem chars_dec : ∀ {l : List Int}, D9 l → Dg (chars l) ∧ ((dec (chars l) : Nat) : Int) = dv l ∧ (chars l).length = l.length
  | [], _ => ⟨fun c hc => by simp [chars] at hc, rfl, rfl⟩
  | d :: l, h => by
    have h1 := h d List.mem_cons_self
    obtain ⟨h2, h3, h4⟩ := chars_dec (l := l) fun y hy => h y (List.mem_cons_of_mem _ hy)
    have e : chars (d :: l) = chars l ++ [UInt8.ofNat (48 + d).toNat] := by simp [chars]
    have e2 : (48 + d).toNat = 48 + d.toNat := by omega
    have e3 : (UInt8.ofNat (48 + d).toNat).toNat = 48 + d.toNat := by rw [e2]; exact u8_toNat (by omega)
    rw [e]
    refine ⟨h2.app ?_, ?_, by simp [h4]⟩
    · intro c hc
      rw [List.mem_singleton.1 hc, e3]; omega
    · rw [dec_snoc, e3, Int.natCast_add, Int.natCast_mul, h3]
      simp only [dv]
      omega
/-- A number's digit. -/
theorem dec_digit {s : List UInt8} (h : Dg s) {k : Nat} (hk : k < s.length) : (s[s.length - 1 - k]'(by omega)).toNat - 48 = dec s / 10 ^ k % 10 := by
  have e : s = s.take (s.length - 1 - k) ++ (s[s.length - 1 - k]'(by omega) :: s.drop (s.length - 1 - k + 1)) := by
    rw [← List.drop_eq_getElem_cons, List.take_append_drop]
  have hd : Dg (s.drop (s.length - 1 - k + 1)) := fun c hc => h c (List.mem_of_mem_drop hc)
  have hl : (s.drop (s.length - 1 - k + 1)).length = k := by rw [List.length_drop]; omega
  have hlt := dec_lt hd
  rw [hl] at hlt
  have hc := h _ (List.getElem_mem (show s.length - 1 - k < s.length by omega))
  have hv : dec s = (dec (s.take (s.length - 1 - k)) * 10 + ((s[s.length - 1 - k]'(by omega)).toNat - 48)) * 10 ^ k + dec (s.drop (s.length - 1 - k + 1)) := by
    conv => lhs; rw [e]
    rw [dec_app, dec_cons, List.length_cons, hl, Nat.pow_succ]
    grind
  rw [hv, Nat.add_comm, Nat.add_mul_div_right _ _ (Nat.pow_pos (by decide)), Nat.div_eq_of_lt hlt, Nat.zero_add]
  omega
theorem dec_digit_far {s : List UInt8} (h : Dg s) {k : Nat} (hk : s.length ≤ k) : dec s / 10 ^ k % 10 = 0 := by
  have h1 := dec_lt h
  have h2 := Nat.pow_le_pow_right (show 0 < 10 by decide) hk
  rw [Nat.div_eq_of_lt (by omega)]
theorem mod_succ (n k : Nat) : n % 10 ^ (k + 1) = n % 10 ^ k + 10 ^ k * (n / 10 ^ k % 10) := by
  rw [Nat.pow_succ, Nat.mod_mul]
end Dv

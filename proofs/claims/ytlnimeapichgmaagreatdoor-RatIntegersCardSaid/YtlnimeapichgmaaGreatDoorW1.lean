/-
  The words of a number.
-/
import Derived.Test.YtlnimeapichgmaaGreatDoorDe
import Derived.Test.YtlnimeapichgmaaGreatDoorT2
set_option linter.constructorNameAsVariable false
set_option linter.unusedSimpArgs false
set_option linter.unusedVariables false
namespace Dv
def wOf (n : Nat) : List Int := if h : n = 0 then [] else ((n % 4294967296 : Nat) : Int) :: wOf (n / 4294967296)
termination_by n
decreasing_by omega
theorem wOf_zero : wOf 0 = [] := by rw [wOf, dif_pos rfl]
theorem wOf_pos {n : Nat} (h : n ≠ 0) : wOf n = ((n % 4294967296 : Nat) : Int) :: wOf (n / 4294967296) := by rw [wOf, dif_neg h]
theorem wOf_nil {n : Nat} : wOf n = [] ↔ n = 0 := by
  constructor
  · intro h
    rcases Nat.eq_zero_or_pos n with h0 | h0
    · exact h0
    · rw [wOf_pos (by omega)] at h; cases h
  · rintro rfl; exact wOf_zero
theorem wOf_spec (n : Nat) : Wd (wOf n) ∧ Nz (wOf n) ∧ wv (wOf n) = n := by
  induction n using Nat.strongRecOn with
  | _ n ih =>
    by_cases h : n = 0
    · subst h
      rw [wOf_zero]
      exact ⟨fun x hx => by simp at hx, fun h => absurd rfl h, rfl⟩
    · obtain ⟨h1, h2, h3⟩ := ih (n / 4294967296) (by omega)
      rw [wOf_pos h]
      refine ⟨fun x hx => ?_, fun hne => ?_, ?_⟩
      · rcases List.mem_cons.1 hx with rfl | hx
        · omega
        · exact h1 x hx
      · by_cases hz : wOf (n / 4294967296) = []
        · have : n / 4294967296 = 0 := wOf_nil.1 hz
          simp only [hz, List.getLast_singleton]
          omega
        · rw [List.getLast_cons hz]
          exact h2 hz
      · rw [wv, h3]; omega
theorem wd_wOf (n : Nat) : Wd (wOf n) := (wOf_spec n).1
theorem nz_wOf (n : Nat) : Nz (wOf n) := (wOf_spec n).2.1
theorem wv_wOf (n : Nat) : wv (wOf n) = n := (wOf_spec n).2.2
theorem wv_nonneg {l : List Int} (h : Wd l) : 0 ≤ wv l := (wv_bound h).1
theorem wOf_uniq : ∀ {l : List Int} {n : Nat}, Wd l → Nz l → wv l = n → l = wOf n
  | [], n, _, _, h => by
    have : n = 0 := by simp only [wv] at h; omega
    rw [this, wOf_zero]
  | x :: l, n, h1, h2, h3 => by
    have hx := h1 x List.mem_cons_self
    have hl : Wd l := fun y hy => h1 y (List.mem_cons_of_mem _ hy)
    have hp := nz_pos h1 h2 (by simp)
    have h0 := wv_nonneg hl
    simp only [wv] at h3 hp
    have hn : Nz l := fun hne => by
      have := h2 (by simp)
      rwa [List.getLast_cons hne] at this
    rw [wOf_pos (by omega), ← wOf_uniq (l := l) (n := n / 4294967296) hl hn (by omega)]
    congr 1
    omega
theorem wOf_len {n k : Nat} : (wOf n).length ≤ k ↔ n < 4294967296 ^ k := by
  induction k generalizing n with
  | zero =>
    simp only [Nat.le_zero_eq, List.length_eq_zero_iff, wOf_nil, Nat.pow_zero]
    omega
  | succ k ih =>
    by_cases h : n = 0
    · subst h
      rw [wOf_zero]
      simp only [List.length_nil, Nat.zero_le, true_iff]
      exact Nat.pow_pos (by decide)
    · rw [wOf_pos h, List.length_cons, Nat.add_le_add_iff_right, ih, Nat.pow_succ]
      omega
theorem wOf_len_mono {m n : Nat} (h : m ≤ n) : (wOf m).length ≤ (wOf n).length := by
  rw [wOf_len]
  exact Nat.lt_of_le_of_lt h (wOf_len.1 (Nat.le_refl _))
theorem wOf_len_add (m n : Nat) : (wOf (m + n)).length ≤ max (wOf m).length (wOf n).length + 1 := by
  rw [wOf_len, Nat.pow_succ]
  have h1 : m < 4294967296 ^ max (wOf m).length (wOf n).length := wOf_len.1 (Nat.le_max_left _ _)
  have h2 : n < 4294967296 ^ max (wOf m).length (wOf n).length := wOf_len.1 (Nat.le_max_right _ _)
  omega
theorem wOf_len_mul (m n : Nat) : (wOf (m * n)).length ≤ (wOf m).length + (wOf n).length := by
  rw [wOf_len, Nat.pow_add]
  have h1 : m < 4294967296 ^ (wOf m).length := wOf_len.1 (Nat.le_refl _)
  have h2 : n < 4294967296 ^ (wOf n).length := wOf_len.1 (Nat.le_refl _)
  exact Nat.mul_lt_mul'' h1 h2
/-- How many words a number takes. -/
def ln (v : Int) : Nat := (wOf v.natAbs).length
theorem ln_neg (v : Int) : ln (-v) = ln v := by rw [ln, Int.natAbs_neg]; rfl
theorem ln_add (a b : Int) : ln (a + b) ≤ max (ln a) (ln b) + 1 := Nat.le_trans (wOf_len_mono (Int.natAbs_add_le a b)) (wOf_len_add _ _)
theorem ln_mul (a b : Int) : ln (a * b) ≤ ln a + ln b := by rw [ln, Int.natAbs_mul]; exact wOf_len_mul _ _
theorem ln_le {v : Int} {k : Nat} : ln v ≤ k ↔ v.natAbs < 4294967296 ^ k := wOf_len
theorem ln_mono {a b : Int} (h : a.natAbs ≤ b.natAbs) : ln a ≤ ln b := wOf_len_mono h
theorem ln_small {v : Int} (h : v.natAbs < 18446744073709551616) : ln v ≤ 2 := ln_le.2 (by simpa using h)
end Dv

/-
  Integers of any size as values: Neg, Sign, Of.
-/
set_option linter.unusedSimpArgs false
set_option linter.unusedVariables false
namespace Go.Proofs.YtlnimeapichgmaaGreatDoor
open Go.Am Go.Tx Dv
set_option maxRecDepth 100000
/-- An integer as a value. -/
abbrev IS (v : Int) : SV := .agg [.v .b (decide (v < 0)), u32s (wOf v.natAbs)]
def sg (m : Bool) (x : Int) : Int := match m with | true => -x | false => x
theorem norm_is (m : Bool) (a : List Int) (ha : Wd a) (hl : a.length ≤ 1000000) : PureOK Tryz.prog hints 107 [.v .b m, u32s a] (fun V => V = IS (sg m (wv a))) := by
  refine (norm_t m a ha hl).mono ?_
  rintro _ ⟨s, rfl, h1, h2, _, h4⟩
  have h0 := wv_nonneg ha
  have hs : s = wOf (wv a).toNat := wOf_uniq h1 h2 (by omega)
  have hab : (sg m (wv a)).natAbs = (wv a).toNat := by cases m <;> simp only [sg] <;> omega
  have hb : (m && decide (0 < (s.length : Int))) = decide (sg m (wv a) < 0) := by
    have hl0 : s.length = 0 ↔ wv a = 0 := by
      rw [List.length_eq_zero_iff, hs, wOf_nil]; omega
    cases m with
    | true =>
      simp only [Bool.true_and, sg]
      refine decide_eq_decide.2 ?_
      constructor
      · intro h; have := mt hl0.2; omega
      · intro h; have := mt hl0.1; omega
    | false =>
      simp only [Bool.false_and, sg]
      exact (decide_eq_false (by omega)).symm
  show SV.agg [.v .b (m && decide (0 < (s.length : Int))), u32s s] = SV.agg [.v .b (decide (sg m (wv a) < 0)), u32s (wOf (sg m (wv a)).natAbs)]
  rw [hb, hab, ← hs]
set_option maxHeartbeats 4000000 in
theorem Neg_t (v : Int) (hl : ln v ≤ 1000000) : PureOK Tryz.prog hints 90 [IS v] (fun V => V = IS (-v)) := by
  refine pure_rule (fn := Tryz.f90) (code := bodyOf Tryz.f90) tys_ok (by kernel_rfl) rfl Tryz.func90 (by kernel_rfl) (Nat.le_of_ble_eq_true (by kernel_rfl)) ?_
  refine And.intro rfl ?_
  refine And.intro rfl ?_
  refine (norm_is _ _ (wd_wOf _) hl).mono ?_
  rintro _ rfl
  refine And.intro rfl ?_
  refine And.intro rfl ?_
  have : sg (!decide (v < 0)) (wv (wOf v.natAbs)) = -v := by
    rw [wv_wOf]
    by_cases h : v < 0
    · rw [decide_eq_true h]; simp only [sg, Bool.not_true]; omega
    · rw [decide_eq_false h]; simp only [sg, Bool.not_false]; omega
  show IS (sg (!decide (v < 0)) (wv (wOf v.natAbs))) = IS (-v)
  rw [this]
set_option maxHeartbeats 4000000 in
theorem Sign_t (v : Int) : PureOK Tryz.prog hints 105 [IS v] (fun V => V = .v (.i .i64) v.sign) := by
  refine pure_rule (fn := Tryz.f105) (code := bodyOf Tryz.f105) tys_ok (by kernel_rfl) rfl Tryz.func105 (by kernel_rfl) (Nat.le_of_ble_eq_true (by kernel_rfl)) ?_
  refine And.intro rfl ?_
  refine And.intro (fun h => ?_) (fun h => ?_)
  · have h' : ((wOf v.natAbs).length : Int) = 0 := of_decide_eq_true h
    have : v = 0 := by
      have := wOf_nil.1 (List.length_eq_zero_iff.1 (show (wOf v.natAbs).length = 0 by omega)); omega
    subst this
    rfl
  · have h' : ¬ ((wOf v.natAbs).length : Int) = 0 := of_decide_eq_false h
    have hv : v ≠ 0 := by
      rintro rfl
      exact h' (by rw [show (0 : Int).natAbs = 0 from rfl, wOf_zero]; rfl)
    refine And.intro rfl ?_
    refine And.intro (fun h2 => ?_) (fun h2 => ?_)
    · have h3 : v < 0 := of_decide_eq_true h2
      show SV.v (.i .i64) (-1 : Int) = SV.v (.i .i64) v.sign
      rw [Int.sign_eq_neg_one_of_neg h3]
    · have h3 : ¬ v < 0 := of_decide_eq_false h2
      show SV.v (.i .i64) (1 : Int) = SV.v (.i .i64) v.sign
      rw [Int.sign_eq_one_of_pos (by omega)]
theorem u64_wrap (x : Int) : IntKind.u64.wrap x = x % 18446744073709551616 := by
  unfold IntKind.wrap IntKind.signed IntKind.bits
  simp
set_option maxHeartbeats 4000000 in
theorem Of_t (n : Int) (h0 : -9223372036854775808 ≤ n) (h1 : n < 9223372036854775808) : PureOK Tryz.prog hints 85 [.v (.i .i64) n] (fun V => V = IS n) := by
  refine pure_rule (fn := Tryz.f85) (code := bodyOf Tryz.f85) tys_ok (by kernel_rfl) rfl Tryz.func85 (by kernel_rfl) (Nat.le_of_ble_eq_true (by kernel_rfl)) ?_
  have fin : ∀ (m : Bool) (x : Int), 0 ≤ x → x < 18446744073709551616 → sg m x = n → PureOK Tryz.prog hints 107 [.v .b m, u32s [IntKind.u32.wrap x, IntKind.u32.wrap (x.fdiv (2 ^ min (Int.toNat 32) IntKind.u64.bits))]] (fun V => V = IS n) := by
    intro m x hx0 hx1 hs
    have e1 : IntKind.u32.wrap x = x % 4294967296 := u32_wrap x
    have e2 : IntKind.u32.wrap (x.fdiv (2 ^ min (Int.toNat 32) IntKind.u64.bits)) = x / 4294967296 := by rw [shr32, u32_wrap]; omega
    rw [e1, e2]
    refine (norm_is m _ ?_ (by simp)).mono ?_
    · intro y hy
      simp only [List.mem_cons, List.not_mem_nil, or_false] at hy
      rcases hy with rfl | rfl <;> omega
    · rintro _ rfl
      have : wv [x % 4294967296, x / 4294967296] = x := by simp only [wv]; omega
      rw [this, hs]
  refine And.intro (fun h => ?_) (fun h => ?_)
  · have hn : n < 0 := of_decide_eq_true h
    have e : IntKind.u64.wrap (0 - IntKind.u64.wrap n) = -n := by rw [u64_wrap, u64_wrap]; omega
    refine And.intro (by decide) ?_
    refine And.intro (by show 0 + 2 ≤ 2; decide) ?_
    refine (fin (decide (n < 0)) (IntKind.u64.wrap (0 - IntKind.u64.wrap n)) (by rw [e]; omega) (by rw [e]; omega) (by rw [e, h]; simp only [sg]; omega)).mono ?_
    rintro _ rfl
    exact ⟨rfl, rfl, rfl⟩
  · have hn : ¬ n < 0 := of_decide_eq_false h
    have e : IntKind.u64.wrap n = n := by rw [u64_wrap]; omega
    refine And.intro (by decide) ?_
    refine And.intro (by show 0 + 2 ≤ 2; decide) ?_
    refine (fin (decide (n < 0)) (IntKind.u64.wrap n) (by rw [e]; omega) (by rw [e]; omega) (by rw [e, h]; simp only [sg])).mono ?_
    rintro _ rfl
    exact ⟨rfl, rfl, rfl⟩
end Go.Proofs.YtlnimeapichgmaaGreatDoor

/-
  large.Read: the number of a text.
-/
import Derived.Test.YtlnimeapichgmaaGreatDoorT17
import Derived.Test.YtlnimeapichgmaaGreatDoorDe
import Derived.Test.YtlnimeapichgmaaGreatDoorW1
set_option linter.constructorNameAsVariable false
set_option linter.unusedSimpArgs false
set_option linter.unusedVariables false
namespace Go.Proofs.YtlnimeapichgmaaGreatDoor
open Go.Am Go.Tx Dv
set_option maxRecDepth 100000
theorem hasP_minus (ds : List UInt8) : hasP (45 :: ds) [45] = true := by simp [hasP]; omega
theorem hasP_digits {ds : List UInt8} (h : Dg ds) : hasP ds [45] = false := by
  cases ds with
  | nil => rfl
  | cons c r =>
    have h1 := h c List.mem_cons_self
    have h2 : c ≠ 45 := by rintro rfl; exact absurd h1.1 (by decide)
    simp [hasP, h2]
theorem ln_dec {s : List UInt8} (h : Dg s) : (wOf (dec s)).length ≤ s.length := by
  rw [wOf_len]
  exact Nat.lt_of_lt_of_le (dec_lt h) (Nat.pow_le_pow_left (by decide) _)
theorem dec_split (s : List UInt8) (n : Nat) : dec s = dec (s.take n) * 10 ^ (s.drop n).length + dec (s.drop n) := by
  conv => lhs; rw [← List.take_append_drop n s]
  exact dec_app _ _
def minusT (neg : Bool) (ds : List UInt8) : List UInt8 := match neg with | true => 45 :: ds | false => ds
def readC (neg : Bool) (t : List UInt8 × Nat) : TM := [(0, .v .s t.1), (2, .ptr 0 0 0), (3, .v .b neg), (4, .ptr 1 0 0)]
def readH (t : List UInt8 × Nat) : List SM := [.cell [.v .b false, .nils] true, .cell [.v .b false, u32s (wOf t.2)] true]
set_option maxHeartbeats 8000000 in
theorem Read_t (neg : Bool) (ds : List UInt8) (hd : Dg ds) (hl : ds.length ≤ 300000) : PureOK Tryz.prog hints 68 [.v .s (minusT neg ds)] (fun V => V = IS (sg neg (dec ds : Nat))) := by
  obtain ⟨s, hs⟩ : ∃ s, minusT neg ds = s := ⟨_, rfl⟩
  have hP : hasP s [45] = neg := by cases neg <;> subst hs <;> first | exact hasP_minus ds | exact hasP_digits hd
  have hT : (match hasP s [45] with | true => s.drop [(45 : UInt8)].length | false => s) = ds := by rw [hP]; cases neg <;> subst hs <;> rfl
  rw [hs]
  refine pure_rule (fn := Tryz.f68) (code := bodyOf Tryz.f68) tys_ok (by kernel_rfl) rfl Tryz.func68 (by kernel_rfl) (Nat.le_of_ble_eq_true (by kernel_rfl)) ?_
  refine (HasPrefix_t s [45]).mono ?_
  rintro _ rfl
  refine (TrimPrefix_t s [45]).mono ?_
  rintro _ rfl
  refine And.intro rfl ?_
  refine loop_wp tys_ok rfl (readC neg) readH (fun t => Dg t.1 ∧ t.1.length ≤ ds.length ∧ dec ds = t.2 * 10 ^ t.1.length + dec t.1 ∧ (t.2 = 0 ∨ t.1.length % 9 = 0)) (fun t => t.1.length) ?_ (ds, 0) ?_ ?_
  · rintro ⟨r, v⟩ ⟨h1, h2, h3, h4⟩
    simp only at h1 h2 h3 h4
    refine And.intro (fun h => ?_) (fun h => ?_)
    · have hr : 1 ≤ r.length := by have h' : (0 : Int) < (r.length : Int) := of_decide_eq_true h; omega
      obtain ⟨n, hn⟩ : ∃ n, n = (r.length - 1) % 9 + 1 := ⟨_, rfl⟩
      have e1 : IntKind.i64.wrap ((r.length : Int) - 1) = ((r.length - 1 : Nat) : Int) := by rw [wrap64 (by omega) (by omega)]; omega
      have e2 : IntKind.i64.wrap ((IntKind.i64.wrap ((r.length : Int) - 1)).tmod 9 + 1) = (n : Int) := by
        rw [e1, Int.tmod_eq_emod_of_nonneg (by omega), wrap64 (by omega) (by omega)]; omega
      have hnr : n ≤ r.length := by omega
      have bn : (0 : Int) ≤ IntKind.i64.wrap ((IntKind.i64.wrap ((r.length : Int) - 1)).tmod 9 + 1) ∧ IntKind.i64.wrap ((IntKind.i64.wrap ((r.length : Int) - 1)).tmod 9 + 1) ≤ (r.length : Int) := by rw [e2]; omega
      have hlt : (r.take n).length = n := by rw [List.length_take]; omega
      have hdt : Dg (r.take n) := fun c hc => h1 c (List.mem_of_mem_take hc)
      have hdd : Dg (r.drop n) := fun c hc => h1 c (List.mem_of_mem_drop hc)
      refine And.intro (by decide) ?_
      refine And.intro bn ?_
      have et : List.drop 0 (List.take (IntKind.i64.wrap ((IntKind.i64.wrap ((r.length : Int) - 1)).tmod 9 + 1)).toNat r) = r.take n := by rw [e2, List.drop_zero, Int.toNat_natCast]
      have hpu := ParseUint_t (r.take n) hdt (by omega) (by omega)
      rw [← et] at hpu
      refine hpu.mono ?_
      rintro _ rfl
      have hvd : v ≤ dec ds := by
        have : v * 1 ≤ v * 10 ^ r.length := Nat.mul_le_mul_left _ (Nat.one_le_pow _ _ (by decide))
        omega
      have hlv : ln (v : Int) ≤ 300000 := by
        rw [ln, Int.natAbs_natCast]
        exact Nat.le_trans (wOf_len_mono hvd) (Nat.le_trans (ln_dec hd) hl)
      have hdl := dec_lt hdt
      have hd9 : dec (r.take n) < 1000000000 := Nat.lt_of_lt_of_le hdl (Nat.pow_le_pow_right (by decide) (show (r.take n).length ≤ 9 by omega))
      obtain ⟨d, ed⟩ : ∃ d : Nat, dec (List.drop 0 (List.take (IntKind.i64.wrap ((IntKind.i64.wrap ((r.length : Int) - 1)).tmod 9 + 1)).toNat r)) = d := ⟨_, rfl⟩
      have ed' : dec (r.take n) = d := by rw [← ed, et]
      have edw : IntKind.i64.wrap ((dec (List.drop 0 (List.take (IntKind.i64.wrap ((IntKind.i64.wrap ((r.length : Int) - 1)).tmod 9 + 1)).toNat r)) : Nat) : Int) = (d : Int) := by rw [ed]; exact wrap64 (by omega) (by omega)
      refine And.intro rfl ?_
      refine (Of_t 1000000000 (by decide) (by decide)).mono ?_
      rintro _ rfl
      have l9 : ln 1000000000 ≤ 2 := ln_small (by decide)
      have hmul := Mul_t (v : Int) 1000000000 (by omega) (by omega)
      rw [is_nat v] at hmul
      refine hmul.mono ?_
      rintro _ rfl
      have hof := Of_t (d : Int) (by omega) (by omega)
      rw [← edw] at hof
      refine hof.mono ?_
      rintro _ rfl
      rw [edw]
      have ld : ln (d : Int) ≤ 2 := ln_small (by omega)
      have lm := ln_mul (v : Int) 1000000000
      refine (Add_t ((v : Int) * 1000000000) (d : Int) (by omega) (by omega)).mono ?_
      rintro _ rfl
      refine And.intro rfl ?_
      refine And.intro bn ?_
      have exd : List.drop (IntKind.i64.wrap ((IntKind.i64.wrap ((r.length : Int) - 1)).tmod 9 + 1)).toNat (List.take r.length r) = r.drop n := by rw [e2, List.take_length, Int.toNat_natCast]
      have hv' : ((v * 1000000000 + d : Nat) : Int) = (v : Int) * 1000000000 + d := by omega
      have c1 : false = decide ((v : Int) * 1000000000 + (d : Int) < 0) := (decide_eq_false (by omega)).symm
      have c2 : wOf (v * 1000000000 + d) = wOf ((v : Int) * 1000000000 + (d : Int)).natAbs := by rw [← hv', Int.natAbs_natCast]
      refine ⟨(r.drop n, v * 1000000000 + d), ⟨hdd, by show (r.drop n).length ≤ _; rw [List.length_drop]; omega, ?_, .inr ?_⟩, by show (r.drop n).length < r.length; rw [List.length_drop]; omega, ?_⟩
      · show dec ds = (v * 1000000000 + d) * 10 ^ (r.drop n).length + dec (r.drop n)
        have hsp := dec_split r n
        rw [ed'] at hsp
        rw [h3]
        have hv9 : v * 10 ^ r.length = v * 1000000000 * 10 ^ (r.drop n).length := by
          rcases h4 with h4 | h4
          · rw [h4]; simp
          · have : n = 9 := by omega
            rw [List.length_drop, this, Nat.mul_assoc, show 1000000000 = 10 ^ 9 from rfl, ← Nat.pow_add, show 9 + (r.length - 9) = r.length by omega]
        rw [hv9, Nat.add_mul]
        omega
      · show (r.drop n).length % 9 = 0
        rw [List.length_drop]; omega
      · refine ent_of rfl rfl ?_ ?_
        · exact ⟨exd.symm, ⟨rfl, rfl⟩, rfl, ⟨rfl, rfl⟩, trivial⟩
        · exact ⟨⟨⟨rfl, trivial, trivial⟩, fun _ => rfl⟩, ⟨⟨c1, c2, trivial⟩, fun _ => rfl⟩, trivial⟩
    · have hr : r = [] := by
        cases r with
        | nil => rfl
        | cons c l =>
          have h' : ¬ (0 : Int) < ((c :: l).length : Int) := of_decide_eq_false h
          simp at h'
      subst hr
      have hv : dec ds = v := by
        rw [h3, dec_nil]; simp
      have hl0 : decide ((0 : Int) < ((wOf v).length : Int)) = decide (0 < v) := by
        refine decide_eq_decide.2 ?_
        have := wOf_nil (n := v)
        rw [← List.length_eq_zero_iff] at this
        omega
      have fin : SV.agg [.v .b (neg && decide ((0 : Int) < ((wOf v).length : Int))), u32s (wOf v)] = IS (sg neg (dec ds : Nat)) := by
        rw [hv, hl0]
        show _ = SV.agg [.v .b (decide (sg neg (v : Int) < 0)), u32s (wOf (sg neg (v : Int)).natAbs)]
        rw [sg_abs, Int.natAbs_natCast]
        have : (neg && decide (0 < v)) = decide (sg neg (v : Int) < 0) := by
          cases neg with
          | true =>
            simp only [Bool.true_and, sg]
            exact decide_eq_decide.2 (by omega)
          | false =>
            simp only [Bool.false_and, sg]
            exact (decide_eq_false (by omega)).symm
        rw [this]
      cases neg with
      | true =>
        refine And.intro (fun _ => ?_) (fun h' => nomatch h')
        refine And.intro (fun _ => ?_) (fun h' => nomatch h')
        refine And.intro rfl ?_
        refine And.intro (fun _ => ?_) (fun h' => nomatch h')
        refine And.intro (fun _ => ?_) (fun h' => nomatch h')
        refine And.intro (fun _ => ?_) (fun h' => nomatch h')
        refine ⟨rfl, rfl, rfl, rfl, fin⟩
      | false =>
        refine And.intro (fun h' => nomatch h') (fun _ => ?_)
        refine And.intro (fun h' => nomatch h') (fun _ => ?_)
        refine And.intro (fun h' => nomatch h') (fun _ => ?_)
        refine And.intro (fun h' => nomatch h') (fun _ => ?_)
        refine And.intro (fun h' => nomatch h') (fun _ => ?_)
        refine ⟨rfl, rfl, rfl, rfl, fin⟩
  · refine ⟨hd, Nat.le_refl _, by simp, .inl rfl⟩
  · refine ent_of rfl rfl ?_ ?_
    · exact ⟨hT.symm, ⟨rfl, rfl⟩, hP.symm, ⟨rfl, rfl⟩, trivial⟩
    · exact ⟨⟨⟨rfl, trivial, trivial⟩, fun _ => rfl⟩, ⟨⟨rfl, wOf_zero, trivial⟩, fun _ => rfl⟩, trivial⟩
end Go.Proofs.YtlnimeapichgmaaGreatDoor

/-
  The package nat in plain Lean: what its functions answer on texts.
-/
set_option linter.unusedSimpArgs false
set_option linter.unusedVariables false
namespace Dv
open Go Go.Am Go.Lib
/-- Is a text canonical? -/
def cnB (s : List UInt8) : Bool := digB s && (!s.isEmpty && !(decide (1 < s.length) && s.head? == some 48))
/-- nat.Check. -/
def natErr (s : List UInt8) : Int := match cnB s with
  | false => 5
  | true => match Nat.ble s.length 2000 with
    | true => 0
    | false => 2
theorem digB_iff {s : List UInt8} : digB s = true ↔ Dg s := by
  unfold digB
  rw [List.all_eq_true]
  refine forall_congr' fun c => forall_congr' fun _ => ?_
  rw [Bool.and_eq_true, Nat.ble_eq, Nat.ble_eq]
theorem cnB_iff {s : List UInt8} : cnB s = true ↔ Cn s := by
  simp only [cnB, Bool.and_eq_true, digB_iff, Bool.not_eq_true', Bool.and_eq_false_iff, decide_eq_false_iff_not, beq_eq_false_iff_ne, List.isEmpty_eq_false_iff, Cn, ne_eq]
  constructor
  · rintro ⟨h1, h2, h3⟩
    exact ⟨h2, h1, fun h => h3.resolve_left (by omega)⟩
  · rintro ⟨h1, h2, h3⟩
    refine ⟨h2, h1, ?_⟩
    by_cases h : 1 < s.length
    · exact .inr (h3 h)
    · exact .inl h
theorem natErr_zero {s : List UInt8} (h : natErr s = 0) : Cn s ∧ s.length ≤ 2000 := by
  unfold natErr at h
  split at h
  · cases h
  · rename_i hc
    split at h
    · rename_i hl
      exact ⟨cnB_iff.1 hc, Nat.le_of_ble_eq_true hl⟩
    · cases h
theorem natErr_of {s : List UInt8} (h : Cn s) (hl : s.length ≤ 2000) : natErr s = 0 := by
  simp only [natErr, cnB_iff.2 h, Nat.ble_eq_true_of_le hl]
/-- What nat.text answers. -/
def natT (n : Nat) : List UInt8 × Int := match Nat.ble (decDigits n).length 2000 with
  | true => (decDigits n, 0)
  | false => ([], 2)
theorem natT_small {n : Nat} (h : n < 10 ^ 2000) : natT n = (decDigits n, 0) := by
  have : Nat.ble (decDigits n).length 2000 = true := Nat.ble_eq_true_of_le ((digits_len (k:=2000) (by decide)).2 h)
  simp only [natT, this]
theorem text_eq (n : Nat) : textF (wOf n) = Nat.ble (decDigits n).length 2000 ∧ (Nat.ble (decDigits n).length 2000 = true → ∀ m, textB m (wOf n) = (match decide (n = 0), m with | false, true => [45] | _, _ => []) ++ decDigits n) := by
  by_cases h0 : n = 0
  · subst h0
    rw [wOf_zero, decDigits_one (by decide)]
    refine ⟨rfl, fun _ m => ?_⟩
    cases m <;> rfl
  · have hne : (wOf n).isEmpty = false := by
      rw [List.isEmpty_eq_false_iff, ne_eq, wOf_nil]; exact h0
    have hd0 : decide (n = 0) = false := decide_eq_false h0
    by_cases hl : (wOf n).length ≤ 210
    · have hb : Nat.ble (wOf n).length 210 = true := Nat.ble_eq_true_of_le hl
      have hlt : n < 10 ^ 2100 := Nat.lt_trans (wOf_len.1 hl) (by decide +kernel)
      have hv : (wv (wOf n)).toNat = n := by rw [wv_wOf]; omega
      have hdig : digF 2100 n = decDigits n := digF_eq 2100 n (by decide) hlt
      refine ⟨by simp only [textF, hne, hb, hv, hdig], fun _ m => ?_⟩
      simp only [textB, hne, hb, hv, hdig, hd0]
      cases m <;> rfl
    · have hb : Nat.ble (wOf n).length 210 = false := by
        cases hb : Nat.ble (wOf n).length 210 with
        | false => rfl
        | true => exact absurd (Nat.le_of_ble_eq_true hb) hl
      have hge : 10 ^ 2000 ≤ n := by
        rcases Nat.lt_or_ge n (10 ^ 2000) with h | h
        · exact absurd (wOf_len.2 (Nat.lt_trans h (by decide +kernel))) hl
        · exact h
      have hbl : Nat.ble (decDigits n).length 2000 = false := by
        cases hbl : Nat.ble (decDigits n).length 2000 with
        | false => rfl
        | true =>
          have := (digits_len (by decide)).1 (Nat.le_of_ble_eq_true hbl)
          omega
      exact ⟨by simp only [textF, hne, hb, hbl], fun h => by rw [hbl] at h; cases h⟩
def twoE (a b : List UInt8) : Int := match decide (natErr a = 0) with
  | true => natErr b
  | false => natErr a
theorem twoE_zero {a b : List UInt8} (h : twoE a b = 0) : natErr a = 0 ∧ natErr b = 0 := by
  unfold twoE at h
  split at h
  · rename_i h1; exact ⟨of_decide_eq_true h1, h⟩
  · rename_i h1; exact absurd h (of_decide_eq_false h1)
end Dv

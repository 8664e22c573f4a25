/-
  Rational numbers as texts, in plain Lean.
-/
import Derived.Test.YtnfgnkbgajhhbaaGreatDoorT17
import Derived.Test.YtnfgnkbgajhhbaaGreatDoorDe
set_option linter.constructorNameAsVariable false
set_option linter.unusedSimpArgs false
set_option linter.unusedVariables false
namespace Dv
open Go Go.Lib
theorem idxA_none : ∀ {s : List UInt8}, Dg s → ∀ i, idxA s 47 i = -1
  | [], _, _ => rfl
  | b :: l, h, i => by
    have hb := (h b List.mem_cons_self).1
    have hf : Nat.beq b.toNat (47 : UInt8).toNat = false := by
      cases hx : Nat.beq b.toNat (47 : UInt8).toNat with
      | false => rfl
      | true => rw [Nat.eq_of_beq_eq_true hx] at hb; exact absurd hb (by decide)
    rw [idxA, hf]
    exact idxA_none (fun c hc => h c (List.mem_cons_of_mem _ hc)) _
theorem idxA_app : ∀ {s : List UInt8}, Dg s → ∀ (t : List UInt8) (i : Nat), idxA (s ++ 47 :: t) 47 i = ((i + s.length : Nat) : Int)
  | [], _, t, i => by
    rw [List.nil_append, idxA]
    rfl
  | b :: l, h, t, i => by
    have hb := (h b List.mem_cons_self).1
    have hf : Nat.beq b.toNat (47 : UInt8).toNat = false := by
      cases hx : Nat.beq b.toNat (47 : UInt8).toNat with
      | false => rfl
      | true => rw [Nat.eq_of_beq_eq_true hx] at hb; exact absurd hb (by decide)
    rw [List.cons_append, idxA, hf]
    simp only
    rw [idxA_app (fun c hc => h c (List.mem_cons_of_mem _ hc)) t (i + 1), List.length_cons]
    congr 1
    omega
theorem idxA_split : ∀ (s : List UInt8) (c : UInt8) (i : Nat), 0 ≤ idxA s c i → ∃ k : Nat, idxA s c i = ((i + k : Nat) : Int) ∧ s = s.take k ++ c :: s.drop (k + 1)
  | [], _, _, h => by rw [idxA] at h; omega
  | b :: l, c, i, h => by
    rw [idxA] at h ⊢
    cases hb : Nat.beq b.toNat c.toNat with
    | true =>
      have hbc : b = c := UInt8.toNat_inj.1 (Nat.eq_of_beq_eq_true hb)
      subst hbc
      exact ⟨0, rfl, rfl⟩
    | false =>
      rw [hb] at h
      obtain ⟨k, h1, h2⟩ := idxA_split l c (i + 1) h
      refine ⟨k + 1, ?_, ?_⟩
      · simp only
        rw [h1]
        congr 1
        omega
      · rw [List.take_succ_cons, List.drop_succ_cons, List.cons_append, ← h2]
theorem cutS_none {s : List UInt8} (h : idxA s 47 0 = -1) : cutS s 47 = (s, [], false) := by
  rw [cutS, h]
  rfl
theorem cutS_at {s : List UInt8} {k : Nat} (h : idxA s 47 0 = (k : Int)) : cutS s 47 = (s.take k, s.drop (k + 1), true) := by
  rw [cutS, h, decide_eq_true (Int.natCast_nonneg k), Int.toNat_natCast]
theorem cutS_true {s : List UInt8} (h : (cutS s 47).2.2 = true) : s = (cutS s 47).1 ++ 47 :: (cutS s 47).2.1 := by
  cases hd : decide (0 ≤ idxA s 47 0) with
  | true =>
    obtain ⟨k, h1, h2⟩ := idxA_split s 47 0 (of_decide_eq_true hd)
    rw [Nat.zero_add] at h1
    rw [cutS_at h1]
    exact h2
  | false =>
    unfold cutS at h
    rw [hd] at h
    cases h
theorem cutS_false {s : List UInt8} (h : (cutS s 47).2.2 = false) : cutS s 47 = (s, [], false) := by
  unfold cutS at h ⊢
  cases hd : decide (0 ≤ idxA s 47 0) with
  | true => rw [hd] at h; cases h
  | false => rfl
def mns (m : Bool) (s : List UInt8) : List UInt8 := match m with
  | true => 45 :: s
  | false => s
def fracT (d : Nat) : List UInt8 := match decide (d = 1) with
  | true => []
  | false => 47 :: decDigits d
def ratT (q : Rat) : List UInt8 := mns (decide (q.num < 0)) (decDigits q.num.natAbs ++ fracT q.den)
def fitQ (q : Rat) : Bool := Nat.ble (decDigits q.num.natAbs).length 2000 && Nat.ble (decDigits q.den).length 2000
def ratR (q : Rat) : List UInt8 × Int := match fitQ q with
  | true => (ratT q, 0)
  | false => ([], 2)
def rNeg (a : List UInt8) : Bool := a.head? == some 45
def rAbs (a : List UInt8) : List UInt8 := match rNeg a with
  | true => a.drop 1
  | false => a
def rNum (a : List UInt8) : List UInt8 := (cutS (rAbs a) 47).1
def rDen (a : List UInt8) : List UInt8 := (cutS (rAbs a) 47).2.1
def rIs (a : List UInt8) : Bool := (cutS (rAbs a) 47).2.2
def rE1 (a : List UInt8) : Int := natErr (rNum a)
def rE2 (a : List UInt8) : Int := match rIs a with
  | true => natErr (rDen a)
  | false => 0
def rBad (a : List UInt8) : Bool := rIs a && (decide (dec (rDen a) = 0) || (decide (dec (rDen a) = 1) || !decide (Nat.gcd (dec (rNum a)) (dec (rDen a)) = 1)))
def ratErr (a : List UInt8) : Int := match decide (rE1 a = 5) || (decide (rE2 a = 5) || (rNum a == [48] && rNeg a)) with
  | true => 5
  | false => match decide (rE1 a = 0) && decide (rE2 a = 0) with
    | false => 2
    | true => match rBad a with
      | true => 3
      | false => 0
theorem rNeg_mns {m : Bool} {s : List UInt8} (h : s.head? ≠ some 45) : rNeg (mns m s) = m := by
  cases m with
  | true => rfl
  | false => simpa [rNeg, mns] using h
theorem rAbs_mns {m : Bool} {s : List UInt8} (h : s.head? ≠ some 45) : rAbs (mns m s) = s := by
  rw [rAbs, rNeg_mns h]
  cases m <;> rfl
theorem mns_abs (a : List UInt8) : mns (rNeg a) (rAbs a) = a := by
  rw [rAbs]
  cases h : rNeg a with
  | false => rfl
  | true =>
    cases a with
    | nil => cases h
    | cons b l =>
      have : b = 45 := by simpa [rNeg] using h
      subst this
      rfl
theorem dg_head {s t : List UInt8} (h : Dg s) (hs : s ≠ []) : (s ++ t).head? ≠ some 45 := by
  cases s with
  | nil => exact absurd rfl hs
  | cons b l =>
    intro he
    have hb := (h b List.mem_cons_self).1
    have : b = 45 := by simpa using he
    subst this
    exact absurd hb (by decide)
theorem ratT_head (n d : Nat) : (decDigits n ++ fracT d).head? ≠ some 45 := dg_head (dg_digits n) (digits_ne n)
theorem cut_ratT (n d : Nat) : cutS (decDigits n ++ fracT d) 47 = match decide (d = 1) with
  | true => (decDigits n, [], false)
  | false => (decDigits n, decDigits d, true) := by
  unfold fracT
  cases decide (d = 1) with
  | true =>
    simp only [List.append_nil]
    exact cutS_none (idxA_none (dg_digits n) 0)
  | false =>
    simp only
    have h := idxA_app (dg_digits n) (decDigits d) 0
    rw [Nat.zero_add] at h
    rw [cutS_at h, List.take_left', List.drop_append]
    · simp
    · rfl
theorem rAbs_ratT (q : Rat) : rAbs (ratT q) = decDigits q.num.natAbs ++ fracT q.den := rAbs_mns (ratT_head _ _)
theorem rNeg_ratT (q : Rat) : rNeg (ratT q) = decide (q.num < 0) := rNeg_mns (ratT_head _ _)
theorem rNum_ratT (q : Rat) : rNum (ratT q) = decDigits q.num.natAbs := by
  rw [rNum, rAbs_ratT, cut_ratT]
  cases decide (q.den = 1) <;> rfl
theorem rIs_ratT (q : Rat) : rIs (ratT q) = !decide (q.den = 1) := by
  rw [rIs, rAbs_ratT, cut_ratT]
  cases decide (q.den = 1) <;> rfl
theorem rDen_ratT (q : Rat) : rDen (ratT q) = match decide (q.den = 1) with | true => [] | false => decDigits q.den := by
  rw [rDen, rAbs_ratT, cut_ratT]
  cases decide (q.den = 1) <;> rfl
theorem fitQ_iff {q : Rat} : fitQ q = true ↔ (decDigits q.num.natAbs).length ≤ 2000 ∧ (decDigits q.den).length ≤ 2000 := by
  rw [fitQ, Bool.and_eq_true, Nat.ble_eq, Nat.ble_eq]
theorem digits_zero {n : Nat} (h : decDigits n = [48]) : n = 0 := by
  have := dec_digits n
  rw [h] at this
  exact this.symm
theorem cn_zero {s : List UInt8} (hs : Cn s) : dec s = 0 ↔ s = [48] := by
  constructor
  · intro h
    have := hs.eq
    rw [h, decDigits_one (by decide)] at this
    exact this.symm
  · rintro rfl; rfl
theorem cn_one {s : List UInt8} (hs : Cn s) : dec s = 1 ↔ s = [49] := by
  constructor
  · intro h
    have := hs.eq
    rw [h, decDigits_one (by decide)] at this
    exact this.symm
  · rintro rfl; rfl
theorem ratErr_ratT {q : Rat} (h : fitQ q = true) : ratErr (ratT q) = 0 := by
  obtain ⟨h1, h2⟩ := fitQ_iff.1 h
  have e1 : rE1 (ratT q) = 0 := by rw [rE1, rNum_ratT]; exact natErr_of (cn_digits _) h1
  have e2 : rE2 (ratT q) = 0 := by
    rw [rE2, rIs_ratT, rDen_ratT]
    cases decide (q.den = 1) with
    | true => rfl
    | false => exact natErr_of (cn_digits _) h2
  have e3 : (rNum (ratT q) == [48] && rNeg (ratT q)) = false := by
    rw [rNum_ratT, rNeg_ratT]
    cases hz : decDigits q.num.natAbs == [48] with
    | false => rfl
    | true =>
      have := digits_zero (eq_of_beq hz)
      rw [Bool.true_and]
      exact decide_eq_false (by omega)
  have e4 : rBad (ratT q) = false := by
    rw [rBad, rIs_ratT, rDen_ratT, rNum_ratT]
    cases hd : decide (q.den = 1) with
    | true => rfl
    | false =>
      have hd := of_decide_eq_false hd
      have hz := q.den_nz
      have hr : decide (Nat.gcd q.num.natAbs q.den = 1) = true := decide_eq_true q.reduced
      simp only
      rw [dec_digits, dec_digits, hr, decide_eq_false hd, decide_eq_false hz]
      rfl
  rw [ratErr, e1, e2, e3, e4]
  rfl
theorem ratErr_zero {a : List UInt8} (h : ratErr a = 0) : ∃ q : Rat, a = ratT q ∧ fitQ q = true := by
  unfold ratErr at h
  cases h1 : decide (rE1 a = 5) || (decide (rE2 a = 5) || (rNum a == [48] && rNeg a)) with
  | true => rw [h1] at h; cases h
  | false =>
  cases h2 : decide (rE1 a = 0) && decide (rE2 a = 0) with
  | false => rw [h1, h2] at h; cases h
  | true =>
  cases h3 : rBad a with
  | true => rw [h1, h2, h3] at h; cases h
  | false =>
  rw [Bool.or_eq_false_iff, Bool.or_eq_false_iff] at h1
  rw [Bool.and_eq_true, decide_eq_true_eq, decide_eq_true_eq] at h2
  obtain ⟨c1, l1⟩ := natErr_zero h2.1
  have hs : rNeg a = true → dec (rNum a) ≠ 0 := fun hn h0 => by
    have := h1.2.2
    rw [hn, (cn_zero c1).1 h0] at this
    cases this
  have hd : ∃ d : Nat, rAbs a = decDigits (dec (rNum a)) ++ fracT d ∧ d ≠ 0 ∧ Nat.gcd (dec (rNum a)) d = 1 ∧ (decDigits d).length ≤ 2000 := by
    cases hi : rIs a with
    | true =>
      have e2 := h2.2
      rw [rE2, hi] at e2
      obtain ⟨c2, l2⟩ := natErr_zero e2
      rw [rBad, hi, Bool.true_and, Bool.or_eq_false_iff, Bool.or_eq_false_iff, Bool.not_eq_false', decide_eq_false_iff_not, decide_eq_false_iff_not, decide_eq_true_eq] at h3
      refine ⟨dec (rDen a), ?_, h3.1, h3.2.2, by rw [c2.eq]; exact l2⟩
      rw [fracT, decide_eq_false h3.2.1, c1.eq, c2.eq]
      exact cutS_true hi
    | false =>
      refine ⟨1, ?_, by decide, Nat.gcd_one_right _, by rw [decDigits_one (by decide)]; decide⟩
      have e := cutS_false hi
      have e1 : rNum a = rAbs a := by rw [rNum, e]
      rw [c1.eq, e1]
      simp [fracT]
  obtain ⟨d, hd1, hd2, hd3, hd4⟩ := hd
  cases hn : rNeg a with
  | true =>
    refine ⟨⟨-(dec (rNum a) : Int), d, hd2, by show Nat.gcd (-(dec (rNum a) : Int)).natAbs d = 1; rw [Int.natAbs_neg, Int.natAbs_natCast]; exact hd3⟩, ?_, ?_⟩
    · have h0 := hs hn
      refine (mns_abs a).symm.trans ?_
      rw [hn, hd1, ratT]
      show mns true _ = mns (decide (-(dec (rNum a) : Int) < 0)) (decDigits (-(dec (rNum a) : Int)).natAbs ++ fracT d)
      rw [Int.natAbs_neg, Int.natAbs_natCast, decide_eq_true (by omega : -(dec (rNum a) : Int) < 0)]
    · refine fitQ_iff.2 ⟨?_, hd4⟩
      show (decDigits (-(dec (rNum a) : Int)).natAbs).length ≤ 2000
      rw [Int.natAbs_neg, Int.natAbs_natCast, c1.eq]
      exact l1
  | false =>
    refine ⟨⟨(dec (rNum a) : Int), d, hd2, by show Nat.gcd (dec (rNum a) : Int).natAbs d = 1; rw [Int.natAbs_natCast]; exact hd3⟩, ?_, ?_⟩
    · refine (mns_abs a).symm.trans ?_
      rw [hn, hd1, ratT]
      show mns false _ = mns (decide ((dec (rNum a) : Int) < 0)) (decDigits (dec (rNum a) : Int).natAbs ++ fracT d)
      rw [Int.natAbs_natCast, decide_eq_false (by omega : ¬ (dec (rNum a) : Int) < 0)]
    · refine fitQ_iff.2 ⟨?_, hd4⟩
      show (decDigits (dec (rNum a) : Int).natAbs).length ≤ 2000
      rw [Int.natAbs_natCast, c1.eq]
      exact l1
theorem ratT_inj {p q : Rat} (h : ratT p = ratT q) : p = q := by
  have h1 := rNum_ratT p
  rw [h, rNum_ratT] at h1
  have h2 := rNeg_ratT p
  rw [h, rNeg_ratT] at h2
  have h3 := rDen_ratT p
  rw [h, rDen_ratT] at h3
  have h4 := rIs_ratT p
  rw [h, rIs_ratT] at h4
  have e1 : q.num.natAbs = p.num.natAbs := by rw [← dec_digits q.num.natAbs, h1, dec_digits]
  refine Rat.ext ?_ ?_
  · have := decide_eq_decide.1 h2
    omega
  · cases hp : decide (p.den = 1) with
    | true =>
      rw [hp] at h4
      have : q.den = 1 := by simpa using h4
      rw [of_decide_eq_true hp, this]
    | false =>
      have hq : decide (q.den = 1) = false := by rw [hp] at h4; simpa using h4
      rw [hp, hq] at h3
      simp only at h3
      rw [← dec_digits p.den, ← h3, dec_digits]
theorem fit_len {q : Rat} (h : fitQ q = true) : (ratT q).length ≤ 4002 := by
  obtain ⟨h1, h2⟩ := fitQ_iff.1 h
  have hf : (fracT q.den).length ≤ 2001 := by
    unfold fracT
    cases decide (q.den = 1) with
    | true => simp
    | false => simp only [List.length_cons]; omega
  have hm : ∀ (m : Bool) (s : List UInt8), (mns m s).length ≤ s.length + 1 := fun m s => by cases m <;> simp [mns]
  have := hm (decide (q.num < 0)) (decDigits q.num.natAbs ++ fracT q.den)
  rw [List.length_append] at this
  rw [ratT]
  omega
theorem eq48 {s : List UInt8} (h : Cn s) : (s == [48]) = decide (dec s = 0) := by
  rw [Bool.eq_iff_iff, beq_iff_eq, decide_eq_true_eq, cn_zero h]
theorem eq49 {s : List UInt8} (h : Cn s) : (s == [49]) = decide (dec s = 1) := by
  rw [Bool.eq_iff_iff, beq_iff_eq, decide_eq_true_eq, cn_one h]
theorem cut_len (s : List UInt8) (c : UInt8) : (cutS s c).1.length ≤ s.length ∧ (cutS s c).2.1.length ≤ s.length := by
  unfold cutS
  cases decide (0 ≤ idxA s c 0) with
  | true => simp only [List.length_take, List.length_drop]; omega
  | false => simp
theorem abs_len (a : List UInt8) : (rAbs a).length ≤ a.length ∧ decide (((rAbs a).length : Int) < (a.length : Int)) = rNeg a := by
  have h := congrArg List.length (mns_abs a)
  cases hn : rNeg a with
  | true =>
    rw [hn] at h
    simp only [mns, List.length_cons] at h
    exact ⟨by omega, decide_eq_true (by omega)⟩
  | false =>
    rw [hn] at h
    simp only [mns] at h
    exact ⟨by omega, decide_eq_false (by omega)⟩
def ratF (E1 E2 : Int) (z m bad : Bool) : Int := match decide (E1 = 5) || (decide (E2 = 5) || (z && m)) with
  | true => 5
  | false => match decide (E1 = 0) && decide (E2 = 0) with
    | false => 2
    | true => match bad with
      | true => 3
      | false => 0
theorem ratErr_parts (a : List UInt8) : ratErr a = ratF (natErr (rNum a)) (rE2 a) (rNum a == [48]) (rNeg a) (rBad a) := rfl
def ratEs : List (List UInt8) → Int
  | [] => 0
  | a :: l => match decide (ratErr a = 0) with
    | true => ratEs l
    | false => ratErr a
def twoQ (a b : List UInt8) : Int := match decide (ratErr a = 0) with
  | true => ratErr b
  | false => ratErr a
theorem ratEs_two (a b : List UInt8) : ratEs [a, b] = twoQ a b := by
  simp only [ratEs, twoQ]
  cases decide (ratErr a = 0) with
  | true =>
    simp only
    cases hb : decide (ratErr b = 0) with
    | true => simp only; exact (of_decide_eq_true hb).symm
    | false => rfl
  | false => rfl
theorem ratEs_zero : ∀ {l : List (List UInt8)}, ratEs l = 0 → ∀ a ∈ l, ratErr a = 0
  | [], _, _, h => absurd h List.not_mem_nil
  | b :: l, h, a, ha => by
    rw [ratEs] at h
    cases hb : decide (ratErr b = 0) with
    | true =>
      rw [hb] at h
      rcases List.mem_cons.1 ha with rfl | ha
      · exact of_decide_eq_true hb
      · exact ratEs_zero h a ha
    | false => rw [hb] at h; exact absurd h (of_decide_eq_false hb)
theorem cut_mns (m : Bool) (n d : Nat) : cutS (mns m (decDigits n ++ fracT d)) 47 = match decide (d = 1) with
  | true => (mns m (decDigits n), [], false)
  | false => (mns m (decDigits n), decDigits d, true) := by
  cases m with
  | false => exact cut_ratT n d
  | true =>
    have e : idxA (mns true (decDigits n ++ fracT d)) 47 0 = idxA (decDigits n ++ fracT d) 47 1 := rfl
    cases hd : decide (d = 1) with
    | true =>
      have hf : fracT d = [] := by rw [fracT, hd]
      rw [hf, List.append_nil] at e ⊢
      rw [idxA_none (dg_digits n)] at e
      exact cutS_none e
    | false =>
      have hf : fracT d = 47 :: decDigits d := by rw [fracT, hd]
      rw [hf] at e ⊢
      rw [idxA_app (dg_digits n)] at e
      rw [cutS_at e, mns, Nat.add_comm, List.take_succ_cons, List.take_left', List.drop_succ_cons, List.drop_append]
      · simp [mns]
      · rfl
theorem digF_len : ∀ (k n : Nat), (digF k n).length ≤ k
  | 0, _ => Nat.le_refl 0
  | k + 1, n => by
    rw [digF]
    cases Nat.ble 10 n with
    | true =>
      have := digF_len k (n / 10)
      simp only [List.length_append, List.length_singleton]
      omega
    | false => simp
theorem textB_len (m : Bool) (l : List Int) : (textB m l).length ≤ 2101 := by
  unfold textB
  cases l.isEmpty with
  | true => simp
  | false =>
    simp only
    cases Nat.ble l.length 210 with
    | true =>
      have := digF_len 2100 (wv l).toNat
      cases m <;> simp only [List.length_append, List.length_cons, List.length_nil] <;> omega
    | false => simp
theorem text_num (v : Int) : textF (wOf v.natAbs) = Nat.ble (decDigits v.natAbs).length 2000 ∧ (Nat.ble (decDigits v.natAbs).length 2000 = true → textB (decide (v < 0)) (wOf v.natAbs) = mns (decide (v < 0)) (decDigits v.natAbs)) := by
  obtain ⟨h1, h2⟩ := text_eq v.natAbs
  refine ⟨h1, fun hb => ?_⟩
  rw [h2 hb]
  by_cases h : v < 0
  · rw [decide_eq_true h, decide_eq_false (by omega : ¬ v.natAbs = 0)]
    rfl
  · rw [decide_eq_false h]
    cases decide (v.natAbs = 0) <;> rfl
theorem fit_ln {q : Rat} (h : fitQ q = true) : ln q.num ≤ 2000 ∧ ln (q.den : Int) ≤ 2000 := by
  obtain ⟨h1, h2⟩ := fitQ_iff.1 h
  have hl : ∀ n : Nat, (wOf n).length ≤ (decDigits n).length := fun n => by
    have hd := dec_lt (dg_digits n)
    rw [dec_digits] at hd
    refine wOf_len.2 (Nat.lt_of_lt_of_le hd (Nat.pow_le_pow_left (by decide) _))
  refine ⟨Nat.le_trans (hl _) h1, ?_⟩
  rw [ln, Int.natAbs_natCast]
  exact Nat.le_trans (hl _) h2
theorem ratT_zero : ratT 0 = [48] := by
  rw [ratT, Rat.zero_num, Rat.zero_den]
  show mns false (decDigits 0 ++ fracT 1) = [48]
  rw [decDigits_one (by decide)]
  rfl
theorem fit_zero : fitQ 0 = true := by
  rw [fitQ_iff, Rat.zero_num, Rat.zero_den]
  show (decDigits 0).length ≤ 2000 ∧ (decDigits 1).length ≤ 2000
  rw [decDigits_one (by decide), decDigits_one (by decide)]
  exact ⟨by decide, by decide⟩
theorem ratR_fit {q : Rat} (h : fitQ q = true) : ratR q = (ratT q, 0) := by rw [ratR, h]
theorem twoQ_fit {p q : Rat} (hp : fitQ p = true) (hq : fitQ q = true) : twoQ (ratT p) (ratT q) = 0 := by
  rw [twoQ, ratErr_ratT hp, decide_eq_true rfl]
  exact ratErr_ratT hq
theorem twoQ_48 (a : List UInt8) : twoQ a [48] = ratErr a := by
  have h := ratErr_ratT fit_zero
  rw [ratT_zero] at h
  rw [twoQ, h]
  cases ha : decide (ratErr a = 0) with
  | true => exact (of_decide_eq_true ha).symm
  | false => rfl
end Dv
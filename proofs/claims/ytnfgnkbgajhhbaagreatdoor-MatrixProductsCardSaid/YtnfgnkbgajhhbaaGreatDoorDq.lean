/-
 Rational numbers as texts, in plain Lean.
-/
import Derived.Test.YtnfgnkbgajhhbaaGreatDoorT17
set_option linter.constructorNameAsVariable false
set_option linter.unusedSimpArgs false
set_option linter.unusedVariables false
namespace Dv
open Go Go.Lib
theorem Zhi : ∀ {s : List UInt8}, Dg s → ∀ i, ZbA s 47 i = -1
 | [], _, _ => rfl
 | b :: l, h, i => by
  have hb := (h b List.mem_cons_self).1
  have hf : Nat.beq b.toNat (47 : UInt8).toNat = false := by
   cases hx : Nat.beq b.toNat (47 : UInt8).toNat with
   | false => rfl
   | true => rw [Nat.eq_of_beq_eq_true hx] at hb; exact absurd hb (by decide)
  rw [ZbA, hf]
  exact Zhi (fun c hc => h c (List.mem_cons_of_mem _ hc)) _
theorem Zky : ∀ {s : List UInt8}, Dg s → ∀ (t : List UInt8) (i : Nat), ZbA (s ++ 47 :: t) 47 i = ((i + s.length : Nat) : Int)
 | [], _, t, i => by
  rw [List.nil_append, ZbA]
  rfl
 | b :: l, h, t, i => by
  have hb := (h b List.mem_cons_self).1
  have hf : Nat.beq b.toNat (47 : UInt8).toNat = false := by
   cases hx : Nat.beq b.toNat (47 : UInt8).toNat with
   | false => rfl
   | true => rw [Nat.eq_of_beq_eq_true hx] at hb; exact absurd hb (by decide)
  rw [List.cons_append, ZbA, hf]
  simp only
  rw [Zky (fun c hc => h c (List.mem_cons_of_mem _ hc)) t (i + 1), List.length_cons]
  congr 1
  omega
theorem ZfZ : ∀ (s : List UInt8) (c : UInt8) (i : Nat), 0 ≤ ZbA s c i → ∃ k : Nat, ZbA s c i = ((i + k : Nat) : Int) ∧ s = s.take k ++ c :: s.drop (k + 1)
 | [], _, _, h => by rw [ZbA] at h; omega
 | b :: l, c, i, h => by
  rw [ZbA] at h ⊢
  cases hb : Nat.beq b.toNat c.toNat with
  | true =>
   have hbc : b = c := UInt8.toNat_inj.1 (Nat.eq_of_beq_eq_true hb)
   subst hbc
   exact ⟨0, rfl, rfl⟩
  | false =>
   rw [hb] at h
   obtain ⟨k, h1, h2⟩ := ZfZ l c (i + 1) h
   refine ⟨k + 1, ?_, ?_⟩
   ·simp only
    rw [h1]
    congr 1
    omega
   ·rw [List.take_succ_cons, List.drop_succ_cons, List.cons_append, ← h2]
theorem Zfs {s : List UInt8} (h : ZbA s 47 0 = -1) : ZcK s 47 = (s, [], false) := by
 rw [ZcK, h]
 rfl
theorem Zf5 {s : List UInt8} {k : Nat} (h : ZbA s 47 0 = (k : Int)) : ZcK s 47 = (s.take k, s.drop (k + 1), true) := by
 rw [ZcK, h, decide_eq_true (Int.natCast_nonneg k), Int.toNat_natCast]
theorem Zqg {s : List UInt8} (h : (ZcK s 47).2.2 = true) : s = (ZcK s 47).1 ++ 47 :: (ZcK s 47).2.1 := by
 cases hd : decide (0 ≤ ZbA s 47 0) with
 | true =>
  obtain ⟨k, h1, h2⟩ := ZfZ s 47 0 (of_decide_eq_true hd)
  rw [Nat.zero_add] at h1
  rw [Zf5 h1]
  exact h2
 | false =>
  unfold ZcK at h
  rw [hd] at h
  cases h
theorem Zi9 {s : List UInt8} (h : (ZcK s 47).2.2 = false) : ZcK s 47 = (s, [], false) := by
 unfold ZcK at h ⊢
 cases hd : decide (0 ≤ ZbA s 47 0) with
 | true => rw [hd] at h; cases h
 | false => rfl
def mns (m : Bool) (s : List UInt8) : List UInt8 := match m with
 | true => 45 :: s
 | false => s
def Zbm (d : Nat) : List UInt8 := match decide (d = 1) with
 | true => []
 | false => 47 :: decDigits d
def ZaK (q : Rat) : List UInt8 := mns (decide (q.num < 0)) (decDigits q.num.natAbs ++ Zbm q.den)
def ZgG (q : Rat) : Bool := Nat.ble (decDigits q.num.natAbs).length 2000 && Nat.ble (decDigits q.den).length 2000
def ZjZ (a : List UInt8) : Bool := a.head? == some 45
def Ze6 (a : List UInt8) : List UInt8 := match ZjZ a with
 | true => a.drop 1
 | false => a
def Zfu (a : List UInt8) : List UInt8 := (ZcK (Ze6 a) 47).1
def Zl3 (a : List UInt8) : List UInt8 := (ZcK (Ze6 a) 47).2.1
def rIs (a : List UInt8) : Bool := (ZcK (Ze6 a) 47).2.2
def rE1 (a : List UInt8) : Int := Zaz (Zfu a)
def rE2 (a : List UInt8) : Int := match rIs a with
 | true => Zaz (Zl3 a)
 | false => 0
def Zuk (a : List UInt8) : Bool := rIs a && (decide (dec (Zl3 a) = 0) || (decide (dec (Zl3 a) = 1) || !decide (Nat.gcd (dec (Zfu a)) (dec (Zl3 a)) = 1)))
def Zby (a : List UInt8) : Int := match decide (rE1 a = 5) || (decide (rE2 a = 5) || (Zfu a == [48] && ZjZ a)) with
 | true => 5
 | false => match decide (rE1 a = 0) && decide (rE2 a = 0) with
  | false => 2
  | true => match Zuk a with
   | true => 3
   | false => 0
theorem ZnB {m : Bool} {s : List UInt8} (h : s.head? ≠ some 45) : ZjZ (mns m s) = m := by
 cases m with
 | true => rfl
 | false => simpa [ZjZ, mns] using h
theorem ZsP {m : Bool} {s : List UInt8} (h : s.head? ≠ some 45) : Ze6 (mns m s) = s := by
 rw [Ze6, ZnB h]
 cases m <;> rfl
theorem ZjC (a : List UInt8) : mns (ZjZ a) (Ze6 a) = a := by
 rw [Ze6]
 cases h : ZjZ a with
 | false => rfl
 | true =>
  cases a with
  | nil => cases h
  | cons b l =>
   have : b = 45 := by simpa [ZjZ] using h
   subst this
   rfl
theorem ZvN {s t : List UInt8} (h : Dg s) (hs : s ≠ []) : (s ++ t).head? ≠ some 45 := by
 cases s with
 | nil => exact absurd rfl hs
 | cons b l =>
  intro he
  have hb := (h b List.mem_cons_self).1
  have : b = 45 := by simpa using he
  subst this
  exact absurd hb (by decide)
theorem Ziu (n d : Nat) : (decDigits n ++ Zbm d).head? ≠ some 45 := ZvN (ZaI n) (Zd8 n)
theorem Zfa (n d : Nat) : ZcK (decDigits n ++ Zbm d) 47 = match decide (d = 1) with
 | true => (decDigits n, [], false)
 | false => (decDigits n, decDigits d, true) := by
 unfold Zbm
 cases decide (d = 1) with
 | true =>
  simp only [List.append_nil]
  exact Zfs (Zhi (ZaI n) 0)
 | false =>
  simp only
  have h := Zky (ZaI n) (decDigits d) 0
  rw [Nat.zero_add] at h
  rw [Zf5 h, List.take_left', List.drop_append]
  ·simp
  ·rfl
theorem Zfm (q : Rat) : Ze6 (ZaK q) = decDigits q.num.natAbs ++ Zbm q.den := ZsP (Ziu _ _)
theorem ZhF (q : Rat) : ZjZ (ZaK q) = decide (q.num < 0) := ZnB (Ziu _ _)
theorem Zk4 (q : Rat) : Zfu (ZaK q) = decDigits q.num.natAbs := by
 rw [Zfu, Zfm, Zfa]
 cases decide (q.den = 1) <;> rfl
theorem Zn5 (q : Rat) : rIs (ZaK q) = !decide (q.den = 1) := by
 rw [rIs, Zfm, Zfa]
 cases decide (q.den = 1) <;> rfl
theorem Zl0 (q : Rat) : Zl3 (ZaK q) = match decide (q.den = 1) with | true => [] | false => decDigits q.den := by
 rw [Zl3, Zfm, Zfa]
 cases decide (q.den = 1) <;> rfl
theorem Zeg {q : Rat} : ZgG q = true ↔ (decDigits q.num.natAbs).length ≤ 2000 ∧ (decDigits q.den).length ≤ 2000 := by
 rw [ZgG, Bool.and_eq_true, Nat.ble_eq, Nat.ble_eq]
theorem ZqP {s : List UInt8} (hs : Cn s) : dec s = 0 ↔ s = [48] := by
 constructor
 ·intro h
  have := hs.eq
  rw [h, decDigits_one (by decide)] at this
  exact this.symm
 ·rintro rfl; rfl
theorem Zt6 {s : List UInt8} (hs : Cn s) : dec s = 1 ↔ s = [49] := by
 constructor
 ·intro h
  have := hs.eq
  rw [h, decDigits_one (by decide)] at this
  exact this.symm
 ·rintro rfl; rfl
theorem Zme {a : List UInt8} (h : Zby a = 0) : ∃ q : Rat, a = ZaK q ∧ ZgG q = true := by
 unfold Zby at h
 cases h1 : decide (rE1 a = 5) || (decide (rE2 a = 5) || (Zfu a == [48] && ZjZ a)) with
 | true => rw [h1] at h; cases h
 | false =>
 cases h2 : decide (rE1 a = 0) && decide (rE2 a = 0) with
 | false => rw [h1, h2] at h; cases h
 | true =>
 cases h3 : Zuk a with
 | true => rw [h1, h2, h3] at h; cases h
 | false =>
 rw [Bool.or_eq_false_iff, Bool.or_eq_false_iff] at h1
 rw [Bool.and_eq_true, decide_eq_true_eq, decide_eq_true_eq] at h2
 obtain ⟨c1, l1⟩ := ZaY h2.1
 have hs : ZjZ a = true → dec (Zfu a) ≠ 0 := fun hn h0 => by
  have := h1.2.2
  rw [hn, (ZqP c1).1 h0] at this
  cases this
 have hd : ∃ d : Nat, Ze6 a = decDigits (dec (Zfu a)) ++ Zbm d ∧ d ≠ 0 ∧ Nat.gcd (dec (Zfu a)) d = 1 ∧ (decDigits d).length ≤ 2000 := by
  cases hi : rIs a with
  | true =>
   have e2 := h2.2
   rw [rE2, hi] at e2
   obtain ⟨c2, l2⟩ := ZaY e2
   rw [Zuk, hi, Bool.true_and, Bool.or_eq_false_iff, Bool.or_eq_false_iff, Bool.not_eq_false', decide_eq_false_iff_not, decide_eq_false_iff_not, decide_eq_true_eq] at h3
   refine ⟨dec (Zl3 a), ?_, h3.1, h3.2.2, by rw [c2.eq]; exact l2⟩
   rw [Zbm, decide_eq_false h3.2.1, c1.eq, c2.eq]
   exact Zqg hi
  | false =>
   refine ⟨1, ?_, by decide, Nat.gcd_one_right _, by rw [decDigits_one (by decide)]; decide⟩
   have e := Zi9 hi
   have e1 : Zfu a = Ze6 a := by rw [Zfu, e]
   rw [c1.eq, e1]
   simp [Zbm]
 obtain ⟨d, hd1, hd2, hd3, hd4⟩ := hd
 cases hn : ZjZ a with
 | true =>
  refine ⟨⟨-(dec (Zfu a) : Int), d, hd2, by show Nat.gcd (-(dec (Zfu a) : Int)).natAbs d = 1; rw [Int.natAbs_neg, Int.natAbs_natCast]; exact hd3⟩, ?_, ?_⟩
  ·have h0 := hs hn
   refine (ZjC a).symm.trans ?_
   rw [hn, hd1, ZaK]
   show mns true _ = mns (decide (-(dec (Zfu a) : Int) < 0)) (decDigits (-(dec (Zfu a) : Int)).natAbs ++ Zbm d)
   rw [Int.natAbs_neg, Int.natAbs_natCast, decide_eq_true (by omega : -(dec (Zfu a) : Int) < 0)]
  ·refine Zeg.2 ⟨?_, hd4⟩
   show (decDigits (-(dec (Zfu a) : Int)).natAbs).length ≤ 2000
   rw [Int.natAbs_neg, Int.natAbs_natCast, c1.eq]
   exact l1
 | false =>
  refine ⟨⟨(dec (Zfu a) : Int), d, hd2, by show Nat.gcd (dec (Zfu a) : Int).natAbs d = 1; rw [Int.natAbs_natCast]; exact hd3⟩, ?_, ?_⟩
  ·refine (ZjC a).symm.trans ?_
   rw [hn, hd1, ZaK]
   show mns false _ = mns (decide ((dec (Zfu a) : Int) < 0)) (decDigits (dec (Zfu a) : Int).natAbs ++ Zbm d)
   rw [Int.natAbs_natCast, decide_eq_false (by omega : ¬ (dec (Zfu a) : Int) < 0)]
  ·refine Zeg.2 ⟨?_, hd4⟩
   show (decDigits (dec (Zfu a) : Int).natAbs).length ≤ 2000
   rw [Int.natAbs_natCast, c1.eq]
   exact l1
theorem ZtI {p q : Rat} (h : ZaK p = ZaK q) : p = q := by
 have h1 := Zk4 p
 rw [h, Zk4] at h1
 have h2 := ZhF p
 rw [h, ZhF] at h2
 have h3 := Zl0 p
 rw [h, Zl0] at h3
 have h4 := Zn5 p
 rw [h, Zn5] at h4
 have e1 : q.num.natAbs = p.num.natAbs := by rw [← Zas q.num.natAbs, h1, Zas]
 refine Rat.ext ?_ ?_
 ·have := decide_eq_decide.1 h2
  omega
 ·cases hp : decide (p.den = 1) with
  | true =>
   rw [hp] at h4
   have : q.den = 1 := by simpa using h4
   rw [of_decide_eq_true hp, this]
  | false =>
   have hq : decide (q.den = 1) = false := by rw [hp] at h4; simpa using h4
   rw [hp, hq] at h3
   simp only at h3
   rw [← Zas p.den, ← h3, Zas]
theorem ZuU {q : Rat} (h : ZgG q = true) : (ZaK q).length ≤ 4002 := by
 obtain ⟨h1, h2⟩ := Zeg.1 h
 have hf : (Zbm q.den).length ≤ 2001 := by
  unfold Zbm
  cases decide (q.den = 1) with
  | true => simp
  | false => simp only [List.length_cons]; omega
 have hm : ∀ (m : Bool) (s : List UInt8), (mns m s).length ≤ s.length + 1 := fun m s => by cases m <;> simp [mns]
 have := hm (decide (q.num < 0)) (decDigits q.num.natAbs ++ Zbm q.den)
 rw [List.length_append] at this
 rw [ZaK]
 omega
theorem Zx4 {s : List UInt8} (h : Cn s) : (s == [48]) = decide (dec s = 0) := by
 rw [Bool.eq_iff_iff, beq_iff_eq, decide_eq_true_eq, ZqP h]
theorem Zw1 {s : List UInt8} (h : Cn s) : (s == [49]) = decide (dec s = 1) := by
 rw [Bool.eq_iff_iff, beq_iff_eq, decide_eq_true_eq, Zt6 h]
theorem Zq6 (s : List UInt8) (c : UInt8) : (ZcK s c).1.length ≤ s.length ∧ (ZcK s c).2.1.length ≤ s.length := by
 unfold ZcK
 cases decide (0 ≤ ZbA s c 0) with
 | true => simp only [List.length_take, List.length_drop]; omega
 | false => simp
theorem Zqm (a : List UInt8) : (Ze6 a).length ≤ a.length ∧ decide (((Ze6 a).length : Int) < (a.length : Int)) = ZjZ a := by
 have h := congrArg List.length (ZjC a)
 cases hn : ZjZ a with
 | true =>
  rw [hn] at h
  simp only [mns, List.length_cons] at h
  exact ⟨by omega, decide_eq_true (by omega)⟩
 | false =>
  rw [hn] at h
  simp only [mns] at h
  exact ⟨by omega, decide_eq_false (by omega)⟩
def ZfY (E1 E2 : Int) (z m bad : Bool) : Int := match decide (E1 = 5) || (decide (E2 = 5) || (z && m)) with
 | true => 5
 | false => match decide (E1 = 0) && decide (E2 = 0) with
  | false => 2
  | true => match bad with
   | true => 3
   | false => 0
theorem ZgD (a : List UInt8) : Zby a = ZfY (Zaz (Zfu a)) (rE2 a) (Zfu a == [48]) (ZjZ a) (Zuk a) := rfl
def ZeG : List (List UInt8) → Int
 | [] => 0
 | a :: l => match decide (Zby a = 0) with
  | true => ZeG l
  | false => Zby a
theorem ZfX : ∀ {l : List (List UInt8)}, ZeG l = 0 → ∀ a ∈ l, Zby a = 0
 | [], _, _, h => absurd h List.not_mem_nil
 | b :: l, h, a, ha => by
  rw [ZeG] at h
  cases hb : decide (Zby b = 0) with
  | true =>
   rw [hb] at h
   rcases List.mem_cons.1 ha with rfl | ha
   ·exact of_decide_eq_true hb
   ·exact ZfX h a ha
  | false => rw [hb] at h; exact absurd h (of_decide_eq_false hb)
theorem ZvG (m : Bool) (n d : Nat) : ZcK (mns m (decDigits n ++ Zbm d)) 47 = match decide (d = 1) with
 | true => (mns m (decDigits n), [], false)
 | false => (mns m (decDigits n), decDigits d, true) := by
 cases m with
 | false => exact Zfa n d
 | true =>
  have e : ZbA (mns true (decDigits n ++ Zbm d)) 47 0 = ZbA (decDigits n ++ Zbm d) 47 1 := rfl
  cases hd : decide (d = 1) with
  | true =>
   have hf : Zbm d = [] := by rw [Zbm, hd]
   rw [hf, List.append_nil] at e ⊢
   rw [Zhi (ZaI n)] at e
   exact Zfs e
  | false =>
   have hf : Zbm d = 47 :: decDigits d := by rw [Zbm, hd]
   rw [hf] at e ⊢
   rw [Zky (ZaI n)] at e
   rw [Zf5 e, mns, Nat.add_comm, List.take_succ_cons, List.take_left', List.drop_succ_cons, List.drop_append]
   ·simp [mns]
   ·rfl
theorem Zoi : ∀ (k n : Nat), (ZtU k n).length ≤ k
 | 0, _ => Nat.le_refl 0
 | k + 1, n => by
  rw [ZtU]
  cases Nat.ble 10 n with
  | true =>
   have := Zoi k (n / 10)
   simp only [List.length_append, List.length_singleton]
   omega
  | false => simp
theorem ZlN (m : Bool) (l : List Int) : (ZcJ m l).length ≤ 2101 := by
 unfold ZcJ
 cases l.isEmpty with
 | true => simp
 | false =>
  simp only
  cases Nat.ble l.length 210 with
  | true =>
   have := Zoi 2100 (wv l).toNat
   cases m <;> simp only [List.length_append, List.length_cons, List.length_nil] <;> omega
  | false => simp
theorem ZnY (v : Int) : Zck (wOf v.natAbs) = Nat.ble (decDigits v.natAbs).length 2000 ∧ (Nat.ble (decDigits v.natAbs).length 2000 = true → ZcJ (decide (v < 0)) (wOf v.natAbs) = mns (decide (v < 0)) (decDigits v.natAbs)) := by
 obtain ⟨h1, h2⟩ := Zrj v.natAbs
 refine ⟨h1, fun hb => ?_⟩
 rw [h2 hb]
 by_cases h : v < 0
 ·rw [decide_eq_true h, decide_eq_false (by omega : ¬ v.natAbs = 0)]
  rfl
 ·rw [decide_eq_false h]
  cases decide (v.natAbs = 0) <;> rfl
theorem Zlt : ZaK 0 = [48] := by
 rw [ZaK, Rat.zero_num, Rat.zero_den]
 show mns false (decDigits 0 ++ Zbm 1) = [48]
 rw [decDigits_one (by decide)]
 rfl
end Dv

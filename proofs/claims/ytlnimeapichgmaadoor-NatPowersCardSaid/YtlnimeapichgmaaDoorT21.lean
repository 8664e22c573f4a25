/-
  The functions of the package nat.
-/
import Derived.Test.YtlnimeapichgmaaDoorT20
import Derived.Test.YtlnimeapichgmaaDoorT16
set_option linter.constructorNameAsVariable false
set_option linter.unusedSimpArgs false
set_option linter.unusedVariables false
namespace Go.Proofs.YtlnimeapichgmaaDoor
open Go.Am Go.Tx Dv Go.Lib
set_option maxRecDepth 100000
abbrev rs (x : List UInt8 × Int) : SV := .tup [.v .s x.1, .v (.i .i64) x.2]
/-- A result of two numbers' texts. -/
def natR (a b : List UInt8) (x : List UInt8 × Int) : List UInt8 × Int := match decide (twoE a b = 0) with
  | true => x
  | false => ([], twoE a b)
theorem two_cases (a b : List UInt8) (hla : a.length ≤ 9223372036854775806) (hlb : b.length ≤ 9223372036854775806) : (twoE a b = 0 ∧ PureOK Tryd.prog hints 29 [.v .s a, .v .s b] (fun V => V = .tup [IS (dec a : Nat), IS (dec b : Nat), .v (.i .i64) (0 : Int)])) ∨
    (twoE a b ≠ 0 ∧ PureOK Tryd.prog hints 29 [.v .s a, .v .s b] (fun V => V = .tup [.agg [.v .b false, .nils], .agg [.v .b false, .nils], .v (.i .i64) (twoE a b)])) := by
  have h := two_t a b hla hlb
  cases hd : decide (twoE a b = 0) with
  | true =>
    refine .inl ⟨of_decide_eq_true hd, h.mono ?_⟩
    rintro V rfl
    simp only [twoV, hd]
  | false =>
    refine .inr ⟨of_decide_eq_false hd, h.mono ?_⟩
    rintro V rfl
    simp only [twoV, hd]
theorem ln_two {a : List UInt8} (h : natErr a = 0) : ln (dec a : Nat) ≤ 2000 := by
  rw [ln, Int.natAbs_natCast]
  exact Nat.le_trans (ln_dec (natErr_zero h).1.2.1) (natErr_zero h).2
theorem RxoorT211lt {n k m:Nat} (h:n<10^k) (hk:k≤m):n<10^m:=Nat.lt_of_lt_of_le h (Nat.pow_le_pow_right (by decide) hk)
theorem dec_two {a : List UInt8} (h : natErr a = 0) : dec a < 10 ^ 2000 := RxoorT211lt (m:=2000) (dec_lt (natErr_zero h).1.2.1) (natErr_zero h).2
set_option maxHeartbeats 4000000 in
theorem natAdd_t (a b : List UInt8) (hla : a.length ≤ 9223372036854775806) (hlb : b.length ≤ 9223372036854775806) : PureOK Tryd.prog hints 11 [.v .s a, .v .s b] (fun V => V = rs (natR a b (natT (dec a + dec b)))) := by
  refine pure_rule (fn := Tryd.f11) (code := bodyOf Tryd.f11) tys_ok (by kernel_rfl) rfl Tryd.func11 (by kernel_rfl) (Nat.le_of_ble_eq_true (by kernel_rfl)) ?_
  rcases two_cases a b hla hlb with ⟨hE, h2⟩ | ⟨hE, h2⟩
  · refine h2.mono ?_
    rintro _ rfl
    obtain ⟨ea, eb⟩ := twoE_zero hE
    have la := ln_two ea
    have lb := ln_two eb
    have da := dec_two ea
    have db := dec_two eb
    have hd : decide (twoE a b = 0) = true := decide_eq_true hE
    refine And.intro rfl ?_
    refine And.intro rfl ?_
    refine And.intro (fun h => absurd h (by decide)) (fun _ => ?_)
    refine And.intro rfl ?_
    refine And.intro rfl ?_
    refine (Add_t (dec a : Nat) (dec b : Nat) (by omega) (by omega)).mono ?_
    rintro _ rfl
    have ht := text_t (dec a + dec b)
    rw [Int.natCast_add] at ht
    refine ht.mono ?_
    rintro _ rfl
    simp only [natR, hd]
    rfl
  · refine h2.mono ?_
    rintro _ rfl
    have hd : decide (twoE a b = 0) = false := decide_eq_false hE
    refine And.intro rfl ?_
    refine And.intro rfl ?_
    have hn : (!decide (twoE a b = 0)) = true := by rw [hd]; rfl
    refine And.intro (fun _ => ?_) (fun h => (nf hn h).elim)
    show _ = rs (natR a b (natT (dec a + dec b)))
    simp only [natR, hd]
set_option maxHeartbeats 4000000 in
theorem natMul_t (a b : List UInt8) (hla : a.length ≤ 9223372036854775806) (hlb : b.length ≤ 9223372036854775806) : PureOK Tryd.prog hints 18 [.v .s a, .v .s b] (fun V => V = rs (natR a b (natT (dec a * dec b)))) := by
  refine pure_rule (fn := Tryd.f18) (code := bodyOf Tryd.f18) tys_ok (by kernel_rfl) rfl Tryd.func18 (by kernel_rfl) (Nat.le_of_ble_eq_true (by kernel_rfl)) ?_
  rcases two_cases a b hla hlb with ⟨hE, h2⟩ | ⟨hE, h2⟩
  · refine h2.mono ?_
    rintro _ rfl
    obtain ⟨ea, eb⟩ := twoE_zero hE
    have la := ln_two ea
    have lb := ln_two eb
    have da := dec_two ea
    have db := dec_two eb
    have hd : decide (twoE a b = 0) = true := decide_eq_true hE
    refine And.intro rfl ?_
    refine And.intro rfl ?_
    refine And.intro (fun h => absurd h (by decide)) (fun _ => ?_)
    refine And.intro rfl ?_
    refine And.intro rfl ?_
    refine (Mul_t (dec a : Nat) (dec b : Nat) (by omega) (by omega)).mono ?_
    rintro _ rfl
    have ht := text_t (dec a * dec b)
    rw [Int.natCast_mul] at ht
    refine ht.mono ?_
    rintro _ rfl
    simp only [natR, hd]
    rfl
  · refine h2.mono ?_
    rintro _ rfl
    have hd : decide (twoE a b = 0) = false := decide_eq_false hE
    refine And.intro rfl ?_
    refine And.intro rfl ?_
    have hn : (!decide (twoE a b = 0)) = true := by rw [hd]; rfl
    refine And.intro (fun _ => ?_) (fun h => (nf hn h).elim)
    show _ = rs (natR a b (natT (dec a * dec b)))
    simp only [natR, hd]
set_option maxHeartbeats 4000000 in
theorem natGcd_t (a b : List UInt8) (hla : a.length ≤ 9223372036854775806) (hlb : b.length ≤ 9223372036854775806) : PureOK Tryd.prog hints 22 [.v .s a, .v .s b] (fun V => V = rs (natR a b (natT (Nat.gcd (dec a) (dec b))))) := by
  refine pure_rule (fn := Tryd.f22) (code := bodyOf Tryd.f22) tys_ok (by kernel_rfl) rfl Tryd.func22 (by kernel_rfl) (Nat.le_of_ble_eq_true (by kernel_rfl)) ?_
  rcases two_cases a b hla hlb with ⟨hE, h2⟩ | ⟨hE, h2⟩
  · refine h2.mono ?_
    rintro _ rfl
    obtain ⟨ea, eb⟩ := twoE_zero hE
    have la := ln_two ea
    have lb := ln_two eb
    have da := dec_two ea
    have db := dec_two eb
    have hd : decide (twoE a b = 0) = true := decide_eq_true hE
    refine And.intro rfl ?_
    refine And.intro rfl ?_
    refine And.intro (fun h => absurd h (by decide)) (fun _ => ?_)
    refine And.intro rfl ?_
    refine And.intro rfl ?_
    refine (Gcd_t (dec a : Nat) (dec b : Nat) (by omega) (by omega)).mono ?_
    rintro _ rfl
    have ht := text_t (Nat.gcd (dec a) (dec b))
    refine ht.mono ?_
    rintro _ rfl
    simp only [natR, hd]
    rfl
  · refine h2.mono ?_
    rintro _ rfl
    have hd : decide (twoE a b = 0) = false := decide_eq_false hE
    refine And.intro rfl ?_
    refine And.intro rfl ?_
    have hn : (!decide (twoE a b = 0)) = true := by rw [hd]; rfl
    refine And.intro (fun _ => ?_) (fun h => (nf hn h).elim)
    show _ = rs (natR a b (natT (Nat.gcd (dec a) (dec b))))
    simp only [natR, hd]
set_option maxHeartbeats 4000000 in
theorem natSub_t (a b : List UInt8) (hla : a.length ≤ 9223372036854775806) (hlb : b.length ≤ 9223372036854775806) : PureOK Tryd.prog hints 12 [.v .s a, .v .s b] (fun V => V = rs (natR a b (match decide (dec a < dec b) with | true => ([], 4) | false => natT (dec a - dec b)))) := by
  refine pure_rule (fn := Tryd.f12) (code := bodyOf Tryd.f12) tys_ok (by kernel_rfl) rfl Tryd.func12 (by kernel_rfl) (Nat.le_of_ble_eq_true (by kernel_rfl)) ?_
  rcases two_cases a b hla hlb with ⟨hE, h2⟩ | ⟨hE, h2⟩
  · refine h2.mono ?_
    rintro _ rfl
    obtain ⟨ea, eb⟩ := twoE_zero hE
    have la := ln_two ea
    have lb := ln_two eb
    have da := dec_two ea
    have db := dec_two eb
    have hd : decide (twoE a b = 0) = true := decide_eq_true hE
    refine And.intro rfl ?_
    refine And.intro rfl ?_
    refine And.intro (fun h => absurd h (by decide)) (fun _ => ?_)
    refine And.intro rfl ?_
    refine And.intro rfl ?_
    refine (Cmp_t (dec a : Nat) (dec b : Nat) (by omega) (by omega)).mono ?_
    rintro _ rfl
    refine And.intro (fun h => ?_) (fun h => ?_)
    · have h' : ((dec a : Int) - (dec b : Int)).sign < 0 := of_decide_eq_true h
      have hlt : dec a < dec b := by have := Int.sign_neg_iff.1 h'; omega
      have hl : decide (dec a < dec b) = true := decide_eq_true hlt
      simp only [natR, hd, hl]
      rfl
    · have h' : ¬ ((dec a : Int) - (dec b : Int)).sign < 0 := of_decide_eq_false h
      have hge : ¬ dec a < dec b := fun hlt => h' (Int.sign_neg_iff.2 (by omega))
      have hl : decide (dec a < dec b) = false := decide_eq_false hge
      refine And.intro rfl ?_
      refine And.intro rfl ?_
      refine (Sub_t (dec a : Nat) (dec b : Nat) (by omega) (by omega)).mono ?_
      rintro _ rfl
      have ht := text_t (dec a - dec b)
      rw [Int.natCast_sub (by omega)] at ht
      refine ht.mono ?_
      rintro _ rfl
      simp only [natR, hd, hl]
      rfl
  · refine h2.mono ?_
    rintro _ rfl
    have hd : decide (twoE a b = 0) = false := decide_eq_false hE
    refine And.intro rfl ?_
    refine And.intro rfl ?_
    have hn : (!decide (twoE a b = 0)) = true := by rw [hd]; rfl
    refine And.intro (fun _ => ?_) (fun h => (nf hn h).elim)
    show _ = rs (natR a b (match decide (dec a < dec b) with | true => ([], 4) | false => natT (dec a - dec b)))
    simp only [natR, hd]
/-- The sign of a difference, or why there is none. -/
def cmpR (a b : List UInt8) : Int × Int := match decide (twoE a b = 0) with
  | true => (((dec a : Int) - (dec b : Int)).sign, 0)
  | false => (0, twoE a b)
set_option maxHeartbeats 4000000 in
theorem natCompare_t (a b : List UInt8) (hla : a.length ≤ 9223372036854775806) (hlb : b.length ≤ 9223372036854775806) : PureOK Tryd.prog hints 26 [.v .s a, .v .s b] (fun V => V = .tup [.v (.i .i64) (cmpR a b).1, .v (.i .i64) (cmpR a b).2]) := by
  refine pure_rule (fn := Tryd.f26) (code := bodyOf Tryd.f26) tys_ok (by kernel_rfl) rfl Tryd.func26 (by kernel_rfl) (Nat.le_of_ble_eq_true (by kernel_rfl)) ?_
  rcases two_cases a b hla hlb with ⟨hE, h2⟩ | ⟨hE, h2⟩
  · refine h2.mono ?_
    rintro _ rfl
    obtain ⟨ea, eb⟩ := twoE_zero hE
    have la := ln_two ea
    have lb := ln_two eb
    have da := dec_two ea
    have db := dec_two eb
    have hd : decide (twoE a b = 0) = true := decide_eq_true hE
    refine And.intro rfl ?_
    refine And.intro rfl ?_
    refine And.intro (fun h => absurd h (by decide)) (fun _ => ?_)
    refine And.intro rfl ?_
    refine And.intro rfl ?_
    refine (Cmp_t (dec a : Nat) (dec b : Nat) (by omega) (by omega)).mono ?_
    rintro _ rfl
    simp only [cmpR, hd]
    rfl
  · refine h2.mono ?_
    rintro _ rfl
    have hd : decide (twoE a b = 0) = false := decide_eq_false hE
    refine And.intro rfl ?_
    refine And.intro rfl ?_
    have hn : (!decide (twoE a b = 0)) = true := by rw [hd]; rfl
    refine And.intro (fun _ => ?_) (fun h => (nf hn h).elim)
    show _ = SV.tup [.v (.i .i64) (cmpR a b).1, .v (.i .i64) (cmpR a b).2]
    simp only [cmpR, hd]
/-- Quotient and remainder. -/
def divR (a b : List UInt8) : List UInt8 × List UInt8 × Int := match decide (twoE a b = 0) with
  | true => match decide (dec b = 0) with
    | true => ([], [], 10)
    | false => (decDigits (dec a / dec b), decDigits (dec a % dec b), 0)
  | false => ([], [], twoE a b)
theorem text_small {n : Nat} (h : n < 10 ^ 2000) : textB (decide ((n : Int) < 0)) (wOf (n : Int).natAbs) = decDigits n := by
  obtain ⟨_, h2⟩ := text_eq n
  have hb : Nat.ble (decDigits n).length 2000 = true := Nat.ble_eq_true_of_le ((digits_len (k:=2000) (by decide)).2 h)
  rw [Int.natAbs_natCast, h2 hb, decide_eq_false (by omega : ¬ (n : Int) < 0)]
  cases decide (n = 0) <;> rfl
set_option maxHeartbeats 4000000 in
theorem natDivide_t (a b : List UInt8) (hla : a.length ≤ 9223372036854775806) (hlb : b.length ≤ 9223372036854775806) : PureOK Tryd.prog hints 21 [.v .s a, .v .s b] (fun V => V = .tup [.v .s (divR a b).1, .v .s (divR a b).2.1, .v (.i .i64) (divR a b).2.2]) := by
  refine pure_rule (fn := Tryd.f21) (code := bodyOf Tryd.f21) tys_ok (by kernel_rfl) rfl Tryd.func21 (by kernel_rfl) (Nat.le_of_ble_eq_true (by kernel_rfl)) ?_
  rcases two_cases a b hla hlb with ⟨hE, h2⟩ | ⟨hE, h2⟩
  · refine h2.mono ?_
    rintro _ rfl
    obtain ⟨ea, eb⟩ := twoE_zero hE
    have la := ln_two ea
    have lb := ln_two eb
    have da := dec_two ea
    have db := dec_two eb
    have hd : decide (twoE a b = 0) = true := decide_eq_true hE
    refine And.intro rfl ?_
    refine And.intro rfl ?_
    refine And.intro (fun h => absurd h (by decide)) (fun _ => ?_)
    refine And.intro rfl ?_
    refine (Sign_t (dec b : Nat)).mono ?_
    rintro _ rfl
    refine And.intro (fun h => ?_) (fun h => ?_)
    · have h' : ((dec b : Nat) : Int).sign = 0 := of_decide_eq_true h
      have hb : decide (dec b = 0) = true := decide_eq_true (by have := Int.sign_eq_zero_iff_zero.1 h'; omega)
      simp only [divR, hd, hb]
      rfl
    · have h' : ¬ ((dec b : Nat) : Int).sign = 0 := of_decide_eq_false h
      have hb0 : dec b ≠ 0 := fun e => h' (by rw [e]; rfl)
      have hb : decide (dec b = 0) = false := decide_eq_false hb0
      refine And.intro rfl ?_
      refine And.intro rfl ?_
      have hdm := DivMod_t (dec a : Nat) (dec b : Nat) (by omega) (by omega) (by omega)
      rw [← Int.natCast_ediv, ← Int.natCast_emod] at hdm
      refine hdm.mono ?_
      rintro _ rfl
      refine And.intro rfl ?_
      refine And.intro rfl ?_
      refine And.intro rfl ?_
      refine (Text_t ((dec a / dec b : Nat) : Int)).mono ?_
      rintro _ rfl
      refine And.intro rfl ?_
      refine (Text_t ((dec a % dec b : Nat) : Int)).mono ?_
      rintro _ rfl
      have hq : dec a / dec b < 10 ^ 2000 := Nat.lt_of_le_of_lt (Nat.div_le_self _ _) da
      have hr : dec a % dec b < 10 ^ 2000 := Nat.lt_of_le_of_lt (Nat.mod_le _ _) da
      show SV.tup [.v .s (textB (decide (((dec a / dec b : Nat) : Int) < 0)) (wOf ((dec a / dec b : Nat) : Int).natAbs)), .v .s (textB (decide (((dec a % dec b : Nat) : Int) < 0)) (wOf ((dec a % dec b : Nat) : Int).natAbs)), .v (.i .i64) (0 : Int)] = _
      rw [text_small hq, text_small hr]
      simp only [divR, hd, hb]
  · refine h2.mono ?_
    rintro _ rfl
    have hd : decide (twoE a b = 0) = false := decide_eq_false hE
    refine And.intro rfl ?_
    refine And.intro rfl ?_
    have hn : (!decide (twoE a b = 0)) = true := by rw [hd]; rfl
    refine And.intro (fun _ => ?_) (fun h => (nf hn h).elim)
    show _ = SV.tup [.v .s (divR a b).1, .v .s (divR a b).2.1, .v (.i .i64) (divR a b).2.2]
    simp only [divR, hd]
end Go.Proofs.YtlnimeapichgmaaDoor

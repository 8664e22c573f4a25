/-
  What two library calls answer, as functions on values: a number's text, a text's number.
-/
import Derived.Test.YtlnimeapichgmaaDoorDe
import Derived.Test.YtlnimeapichgmaaDoorW0
import Derived.Test.YtlnimeapichgmaaDoorAmC
set_option linter.constructorNameAsVariable false
set_option linter.unusedSimpArgs false
set_option linter.unusedVariables false
namespace Dv
open Go Go.Am
def digF : Nat → Nat → List UInt8
  | 0, _ => []
  | k + 1, n => match Nat.ble 10 n with
    | true => digF k (n / 10) ++ [UInt8.ofNat (48 + n % 10)]
    | false => [UInt8.ofNat (48 + n)]
theorem digF_eq : ∀ (k n : Nat), 1 ≤ k → n < 10 ^ k → digF k n = Lib.decDigits n
  | 0, _, h, _ => absurd h (by decide)
  | k + 1, n, _, h => by
    rw [digF]
    cases hb : Nat.ble 10 n with
    | true =>
      have hb := Nat.le_of_ble_eq_true hb
      have hk : 1 ≤ k := by
        rcases k with _ | k
        · simp at h; omega
        · omega
      simp only []
      rw [digF_eq k (n / 10) hk (by rw [Nat.pow_succ] at h; omega), Lib.decDigits.eq_1 n, dif_neg (by omega)]
    | false =>
      have hb : n < 10 := by
        rcases Nat.lt_or_ge n 10 with h' | h'
        · exact h'
        · rw [Nat.ble_eq_true_of_le h'] at hb; cases hb
      simp only []
      rw [Lib.decDigits_one hb]
/-- The words of a list by content. -/
def wordsOf : List (List PV) → Option (List Int)
  | [] => some []
  | [.int .u32 x] :: r => match decide (0 ≤ x) && decide (x < 4294967296) with
    | true => (wordsOf r).map fun l => x :: l
    | false => none
  | _ => none
/-- (large.Int).Text. -/
def textB (m : Bool) (l : List Int) : List UInt8 := match l.isEmpty with
  | true => [48]
  | false => match Nat.ble l.length 210 with
    | true => (match m with | true => [45] | false => []) ++ digF 2100 (wv l).toNat
    | false => []
def textF (l : List Int) : Bool := match l.isEmpty with
  | true => true
  | false => match Nat.ble l.length 210 with
    | true => Nat.ble (digF 2100 (wv l).toNat).length 2000
    | false => false
def textG : List PV → Option PV
  | [.agg [.bool m, .nils]] => some (.tup [.str ⟨(textB m []).toArray⟩, .bool (textF [])])
  | [.agg [.bool m, .lst es]] => (wordsOf es).map fun l => .tup [.str ⟨(textB m l).toArray⟩, .bool (textF l)]
  | _ => none
def digB (s : List UInt8) : Bool := s.all fun c => Nat.ble 48 c.toNat && Nat.ble c.toNat 57
/-- strconv.ParseUint(s, 10, 32) at one to nine digits. -/
def parseG : List PV → Option PV
  | [.str s, .int .i64 b, .int .i64 z] => match decide (b = 10) && decide (z = 32) && (digB s.data.toList && Nat.ble 1 s.data.toList.length && Nat.ble s.data.toList.length 9) with
    | true => some (.tup [.int .u64 (dec s.data.toList : Nat), .nili])
    | false => none
  | _ => none
end Dv

/-
  Vectors and matrices as texts, in plain Lean.
-/
import Derived.Test.YtnfgnkbgajhhbaaGreatDoorDq
import Derived.Test.YtnfgnkbgajhhbaaGreatDoorQ7
import Derived.Test.YtnfgnkbgajhhbaaGreatDoorQA
import Derived.Test.YtnfgnkbgajhhbaaGreatDoorQ9
set_option linter.constructorNameAsVariable false
set_option linter.unusedSimpArgs false
set_option linter.unusedVariables false
namespace Dv
open Go Go.Lib
/-- Check of a vector. -/
def vecE (v : List (List UInt8)) : Int := match decide ((40 : Int) < (v.length : Int)) with
  | true => 2
  | false => ratEs v
def wid (m : List (List (List UInt8))) : Nat := match m with
  | [] => 0
  | r :: _ => r.length
/-- The first error of two. -/
def fst2 (a b : Int) : Int := match decide (a = 0) with
  | true => b
  | false => a
def fstE : List Int → Int
  | [] => 0
  | x :: r => match decide (x = 0) with
    | true => fstE r
    | false => x
theorem fstE_two (a b : Int) : fstE [a, b] = fst2 a b := by
  simp only [fstE, fst2]
  cases decide (a = 0) with
  | true =>
    simp only
    cases hb : decide (b = 0) with
    | true => simp only; exact (of_decide_eq_true hb).symm
    | false => rfl
  | false => rfl
theorem fst2_zero {a b : Int} (h : fst2 a b = 0) : a = 0 ∧ b = 0 := by
  unfold fst2 at h
  cases ha : decide (a = 0) with
  | true => rw [ha] at h; exact ⟨of_decide_eq_true ha, h⟩
  | false => rw [ha] at h; exact absurd h (of_decide_eq_false ha)
theorem vecE_zero {v : List (List UInt8)} (h : vecE v = 0) : v.length ≤ 40 ∧ ratEs v = 0 := by
  unfold vecE at h
  cases hv : decide ((40 : Int) < (v.length : Int)) with
  | true => rw [hv] at h; cases h
  | false => rw [hv] at h; exact ⟨by have := of_decide_eq_false hv; omega, h⟩
/-- Has a text of a list more than so many bytes? -/
def longL (n : Int) : List (List UInt8) → Bool
  | [] => false
  | s :: r => match decide (n < (s.length : Int)) with
    | true => true
    | false => longL n r
/-- Has a matrix more than n columns, or a long text? -/
def vastR (n : Int) : List (List (List UInt8)) → Bool
  | [] => false
  | v :: r => match decide (n < (v.length : Int)) || longL 12 v with
    | true => true
    | false => vastR n r
def vastM (n : Int) : List (List (List (List UInt8))) → Bool
  | [] => false
  | x :: r => match decide (n < (x.length : Int)) || vastR n x with
    | true => true
    | false => vastM n r
theorem longL_all {n : Int} : ∀ {l : List (List UInt8)}, longL n l = false → ∀ a ∈ l, (a.length : Int) ≤ n
  | [], _, _, h => absurd h List.not_mem_nil
  | s :: r, h, a, ha => by
    rw [longL] at h
    cases h1 : decide (n < (s.length : Int)) with
    | true => rw [h1] at h; cases h
    | false =>
      rw [h1] at h
      rcases List.mem_cons.1 ha with rfl | ha
      · have := of_decide_eq_false h1; omega
      · exact longL_all h a ha
theorem vastR_all {n : Int} : ∀ {l : List (List (List UInt8))}, vastR n l = false → ∀ v ∈ l, (v.length : Int) ≤ n ∧ ∀ a ∈ v, (a.length : Int) ≤ 12
  | [], _, _, h => absurd h List.not_mem_nil
  | s :: r, h, v, hv => by
    rw [vastR] at h
    cases h1 : decide (n < (s.length : Int)) || longL 12 s with
    | true => rw [h1] at h; cases h
    | false =>
      rw [h1] at h
      rw [Bool.or_eq_false_iff] at h1
      rcases List.mem_cons.1 hv with rfl | hv
      · exact ⟨by have := of_decide_eq_false h1.1; omega, longL_all h1.2⟩
      · exact vastR_all h v hv
theorem vastM_all {n : Int} : ∀ {l : List (List (List (List UInt8)))}, vastM n l = false → ∀ x ∈ l, (x.length : Int) ≤ n ∧ vastR n x = false
  | [], _, _, h => absurd h List.not_mem_nil
  | s :: r, h, v, hv => by
    rw [vastM] at h
    cases h1 : decide (n < (s.length : Int)) || vastR n s with
    | true => rw [h1] at h; cases h
    | false =>
      rw [h1] at h
      rw [Bool.or_eq_false_iff] at h1
      rcases List.mem_cons.1 hv with rfl | hv
      · exact ⟨by have := of_decide_eq_false h1.1; omega, h1.2⟩
      · exact vastM_all h v hv
end Dv

/-
  Checks of vectors and matrices.
-/
set_option linter.unusedSimpArgs false
set_option linter.unusedVariables false
namespace Go.Proofs.YtnfgnkbgajhhbaaGreatDoor
open Go.Am Go.Tx Dv Go.Lib
set_option maxRecDepth 100000
theorem CheckVec_t (v : List (List UInt8)) (hs : ∀ a ∈ v, a.length ≤ 9223372036854775806) : PureOK Tryz.prog hints 12 [.v (.l .s) v] (fun V => V = .v (.i .i64) (vecE v)) := by
  refine pure_rule (fn := Tryz.f12) (code := bodyOf Tryz.f12) tys_ok (by kernel_rfl) rfl Tryz.func12 (by kernel_rfl) (Nat.le_of_ble_eq_true (by kernel_rfl)) ?_
  have hE : vecE v = match decide ((40 : Int) < (v.length : Int)) with | true => 2 | false => ratEs v := rfl
  rw [hE]
  refine And.intro (fun h => ?_) (fun h => ?_)
  · have h' : decide ((40 : Int) < (v.length : Int)) = true := h
    rw [h']
    rfl
  · have h' : decide ((40 : Int) < (v.length : Int)) = false := h
    rw [h']
    refine (CheckAll_t v (by have := of_decide_eq_false h'; omega) hs).mono ?_
    rintro _ rfl
    rfl
theorem VecError_t (v : List (List UInt8)) (hs : ∀ a ∈ v, a.length ≤ 9223372036854775806) : PureOK Tryz.prog hints 13 [.v (.l .s) v] (fun V => V = .v (.i .i64) (vecE v)) := by
  refine pure_rule (fn := Tryz.f13) (code := bodyOf Tryz.f13) tys_ok (by kernel_rfl) rfl Tryz.func13 (by kernel_rfl) (Nat.le_of_ble_eq_true (by kernel_rfl)) ?_
  have hE : vecE v = match decide ((40 : Int) < (v.length : Int)) with | true => 2 | false => ratEs v := rfl
  rw [hE]
  refine And.intro (fun h => ?_) (fun h => ?_)
  · have h' : decide ((40 : Int) < (v.length : Int)) = true := h
    rw [h']
    rfl
  · have h' : decide ((40 : Int) < (v.length : Int)) = false := h
    rw [h']
    refine (RatErrors_t v (by have := of_decide_eq_false h'; omega) hs).mono ?_
    rintro _ rfl
    rfl
end Go.Proofs.YtnfgnkbgajhhbaaGreatDoor

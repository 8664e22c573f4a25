/-
  Vectors and matrices as texts, in plain Lean.
-/
import Derived.Test.YtnfgnkbgajhhbaaGreatDoorDq
import Derived.Test.YtnfgnkbgajhhbaaGreatDoorQ7
import Derived.Test.YtnfgnkbgajhhbaaGreatDoorQA
import Derived.Test.YtnfgnkbgajhhbaaGreatDoorQ9
set_option linter.constructorNameAsVariable false
set_option linter.unusedSimpArgs false
set_option linter.unusedVariables false
namespace Dv
open Go Go.Lib
/-- Check of a vector. -/
def vecE (v : List (List UInt8)) : Int := match decide ((40 : Int) < (v.length : Int)) with
  | true => 2
  | false => ratEs v
/-- .. of rows of one length. -/
def matL (w : Int) : List (List (List UInt8)) → Int
  | [] => 0
  | r :: l => match decide ((r.length : Int) = w) with
    | false => 3
    | true => match decide (vecE r = 0) with
      | true => matL w l
      | false => vecE r
def wid (m : List (List (List UInt8))) : Nat := match m with
  | [] => 0
  | r :: _ => r.length
def matE (m : List (List (List UInt8))) : Int := match decide ((40 : Int) < (m.length : Int)) with
  | true => 2
  | false => matL (wid m : Nat) m
/-- The first error of two. -/
def fst2 (a b : Int) : Int := match decide (a = 0) with
  | true => b
  | false => a
def fstE : List Int → Int
  | [] => 0
  | x :: r => match decide (x = 0) with
    | true => fstE r
    | false => x
theorem fstE_two (a b : Int) : fstE [a, b] = fst2 a b := by
  simp only [fstE, fst2]
  cases decide (a = 0) with
  | true =>
    simp only
    cases hb : decide (b = 0) with
    | true => simp only; exact (of_decide_eq_true hb).symm
    | false => rfl
  | false => rfl
theorem fst2_zero {a b : Int} (h : fst2 a b = 0) : a = 0 ∧ b = 0 := by
  unfold fst2 at h
  cases ha : decide (a = 0) with
  | true => rw [ha] at h; exact ⟨of_decide_eq_true ha, h⟩
  | false => rw [ha] at h; exact absurd h (of_decide_eq_false ha)
theorem vecE_zero {v : List (List UInt8)} (h : vecE v = 0) : v.length ≤ 40 ∧ ratEs v = 0 := by
  unfold vecE at h
  cases hv : decide ((40 : Int) < (v.length : Int)) with
  | true => rw [hv] at h; cases h
  | false => rw [hv] at h; exact ⟨by have := of_decide_eq_false hv; omega, h⟩
/-- A scalar product. -/
def dotQ : List Rat → List Rat → Rat
  | p :: ps, q :: qs => p * q + dotQ ps qs
  | _, _ => 0
/-- Has a text of a list more than so many bytes? -/
def longL (n : Int) : List (List UInt8) → Bool
  | [] => false
  | s :: r => match decide (n < (s.length : Int)) with
    | true => true
    | false => longL n r
/-- Has a matrix more than n columns, or a long text? -/
def vastR (n : Int) : List (List (List UInt8)) → Bool
  | [] => false
  | v :: r => match decide (n < (v.length : Int)) || longL 12 v with
    | true => true
    | false => vastR n r
def vastM (n : Int) : List (List (List (List UInt8))) → Bool
  | [] => false
  | x :: r => match decide (n < (x.length : Int)) || vastR n x with
    | true => true
    | false => vastM n r
theorem longL_all {n : Int} : ∀ {l : List (List UInt8)}, longL n l = false → ∀ a ∈ l, (a.length : Int) ≤ n
  | [], _, _, h => absurd h List.not_mem_nil
  | s :: r, h, a, ha => by
    rw [longL] at h
    cases h1 : decide (n < (s.length : Int)) with
    | true => rw [h1] at h; cases h
    | false =>
      rw [h1] at h
      rcases List.mem_cons.1 ha with rfl | ha
      · have := of_decide_eq_false h1; omega
      · exact longL_all h a ha
theorem vastR_all {n : Int} : ∀ {l : List (List (List UInt8))}, vastR n l = false → ∀ v ∈ l, (v.length : Int) ≤ n ∧ ∀ a ∈ v, (a.length : Int) ≤ 12
  | [], _, _, h => absurd h List.not_mem_nil
  | s :: r, h, v, hv => by
    rw [vastR] at h
    cases h1 : decide (n < (s.length : Int)) || longL 12 s with
    | true => rw [h1] at h; cases h
    | false =>
      rw [h1] at h
      rw [Bool.or_eq_false_iff] at h1
      rcases List.mem_cons.1 hv with rfl | hv
      · exact ⟨by have := of_decide_eq_false h1.1; omega, longL_all h1.2⟩
      · exact vastR_all h v hv
theorem vastM_all {n : Int} : ∀ {l : List (List (List (List UInt8)))}, vastM n l = false → ∀ x ∈ l, (x.length : Int) ≤ n ∧ vastR n x = false
  | [], _, _, h => absurd h List.not_mem_nil
  | s :: r, h, v, hv => by
    rw [vastM] at h
    cases h1 : decide (n < (s.length : Int)) || vastR n s with
    | true => rw [h1] at h; cases h
    | false =>
      rw [h1] at h
      rw [Bool.or_eq_false_iff] at h1
      rcases List.mem_cons.1 hv with rfl | hv
      · exact ⟨by have := of_decide_eq_false h1.1; omega, h1.2⟩
      · exact vastM_all h v hv
end Dv

/-
  Checks of vectors and matrices.
-/
set_option linter.unusedSimpArgs false
set_option linter.unusedVariables false
namespace Go.Proofs.YtnfgnkbgajhhbaaGreatDoor
open Go.Am Go.Tx Dv Go.Lib
set_option maxRecDepth 100000
theorem CheckVec_t (v : List (List UInt8)) (hs : ∀ a ∈ v, a.length ≤ 9223372036854775806) : PureOK Tryz.prog hints 12 [.v (.l .s) v] (fun V => V = .v (.i .i64) (vecE v)) := by
  refine pure_rule (fn := Tryz.f12) (code := bodyOf Tryz.f12) tys_ok (by kernel_rfl) rfl Tryz.func12 (by kernel_rfl) (Nat.le_of_ble_eq_true (by kernel_rfl)) ?_
  have hE : vecE v = match decide ((40 : Int) < (v.length : Int)) with | true => 2 | false => ratEs v := rfl
  rw [hE]
  refine And.intro (fun h => ?_) (fun h => ?_)
  · have h' : decide ((40 : Int) < (v.length : Int)) = true := h
    rw [h']
    rfl
  · have h' : decide ((40 : Int) < (v.length : Int)) = false := h
    rw [h']
    refine (CheckAll_t v (by have := of_decide_eq_false h'; omega) hs).mono ?_
    rintro _ rfl
    rfl
theorem VecError_t (v : List (List UInt8)) (hs : ∀ a ∈ v, a.length ≤ 9223372036854775806) : PureOK Tryz.prog hints 13 [.v (.l .s) v] (fun V => V = .v (.i .i64) (vecE v)) := by
  refine pure_rule (fn := Tryz.f13) (code := bodyOf Tryz.f13) tys_ok (by kernel_rfl) rfl Tryz.func13 (by kernel_rfl) (Nat.le_of_ble_eq_true (by kernel_rfl)) ?_
  have hE : vecE v = match decide ((40 : Int) < (v.length : Int)) with | true => 2 | false => ratEs v := rfl
  rw [hE]
  refine And.intro (fun h => ?_) (fun h => ?_)
  · have h' : decide ((40 : Int) < (v.length : Int)) = true := h
    rw [h']
    rfl
  · have h' : decide ((40 : Int) < (v.length : Int)) = false := h
    rw [h']
    refine (RatErrors_t v (by have := of_decide_eq_false h'; omega) hs).mono ?_
    rintro _ rfl
    rfl
set_option maxHeartbeats 4000000 in
theorem MCheck_t (m : List (List (List UInt8))) (hs : ∀ v ∈ m, ∀ a ∈ v, a.length ≤ 9223372036854775806) : PureOK Tryz.prog hints 10 [.v (.l (.l .s)) m] (fun V => V = .v (.i .i64) (matE m)) := by
  refine pure_rule (fn := Tryz.f10) (code := bodyOf Tryz.f10) tys_ok (by kernel_rfl) rfl Tryz.func10 (by kernel_rfl) (Nat.le_of_ble_eq_true (by kernel_rfl)) ?_
  have hE : matE m = match decide ((40 : Int) < (m.length : Int)) with | true => 2 | false => matL (wid m : Nat) m := rfl
  rw [hE]
  refine And.intro (fun h => ?_) (fun h => ?_)
  · have h' : decide ((40 : Int) < (m.length : Int)) = true := h
    rw [h']
    rfl
  · have h' : decide ((40 : Int) < (m.length : Int)) = false := h
    rw [h']
    have hl40 : m.length ≤ 40 := by have := of_decide_eq_false h'; omega
    refine loop_wp tys_ok rfl (fun (i : Nat) => [(0, .v (.l (.l .s)) m), (9, .v (.l (.l .s)) m), (10, .v (.i .i64) (m.length : Int)), (11, .v (.i .i64) (i : Int))]) (fun _ => [])
      (fun i => i ≤ m.length ∧ matL (wid m : Nat) (m.drop i) = matL (wid m : Nat) m) (fun i => m.length - i) ?_ 0 ?_ ?_
    · rintro i ⟨hi, he⟩
      refine And.intro (fun h => ?_) (fun h => ?_)
      · have hlt : i < m.length := by have h' : (i : Int) < (m.length : Int) := of_decide_eq_true h; omega
        obtain ⟨r, hr⟩ : ∃ x, m[i] = x := ⟨_, rfl⟩
        have gr : m[(i : Int).toNat]? = some r := by rw [Int.toNat_natCast, List.getElem?_eq_getElem hlt, hr]
        have hrm := hs r (hr ▸ List.getElem_mem hlt)
        obtain ⟨r0, h0⟩ : ∃ x, m[0]'(by omega) = x := ⟨_, rfl⟩
        have g0 : m[(0 : Int).toNat]? = some r0 := by show m[0]? = _; rw [List.getElem?_eq_getElem (by omega), h0]
        have hw : wid m = r0.length := by
          cases m with
          | nil => exact absurd hlt (Nat.not_lt_zero _)
          | cons x l => rw [← h0]; rfl
        rw [List.drop_eq_getElem_cons hlt, hr, matL, hw] at he
        have wi : IntKind.i64.wrap ((i : Int) + 1) = ((i + 1 : Nat) : Int) := wrap64 (by omega) (by omega)
        refine ⟨r, Int.natCast_nonneg i, gr, ?_⟩
        refine ⟨r0, Int.le_refl 0, g0, ?_⟩
        refine And.intro (fun h2 => ?_) (fun h2 => ?_)
        · have h2' : (!decide ((r.length : Int) = (r0.length : Int))) = true := h2
          have hd : decide ((r.length : Int) = (r0.length : Int)) = false := by cases hd : decide ((r.length : Int) = (r0.length : Int)) <;> simp [hd] at h2' ⊢
          rw [hd] at he
          rw [hw]
          exact congrArg (SV.v (.i .i64)) he
        · have h2' : (!decide ((r.length : Int) = (r0.length : Int))) = false := h2
          have hd : decide ((r.length : Int) = (r0.length : Int)) = true := by cases hd : decide ((r.length : Int) = (r0.length : Int)) <;> simp [hd] at h2' ⊢
          rw [hd] at he
          simp only at he
          refine (CheckVec_t r hrm).mono ?_
          rintro _ rfl
          refine And.intro (fun h3 => ?_) (fun h3 => ?_)
          · have h3' : (!decide (vecE r = 0)) = true := h3
            have hd2 : decide (vecE r = 0) = false := by cases hd : decide (vecE r = 0) <;> simp [hd] at h3' ⊢
            rw [hd2] at he
            rw [hw]
            exact congrArg (SV.v (.i .i64)) he
          · have h3' : (!decide (vecE r = 0)) = false := h3
            have hd2 : decide (vecE r = 0) = true := by cases hd : decide (vecE r = 0) <;> simp [hd] at h3' ⊢
            rw [hd2] at he
            simp only at he
            refine ⟨i + 1, ⟨hlt, by rw [hw]; exact he⟩, by show m.length - (i + 1) < m.length - i; omega, ?_⟩
            refine ent_of rfl rfl ?_ ?_
            · exact ⟨rfl, rfl, rfl, wi.symm, trivial⟩
            · exact trivial
      · have hi2 : i = m.length := by have h' : ¬ (i : Int) < (m.length : Int) := of_decide_eq_false h; omega
        rw [List.drop_of_length_le (by omega)] at he
        exact congrArg (SV.v (.i .i64)) he
    · exact ⟨Nat.zero_le _, rfl⟩
    · refine ent_of rfl rfl ?_ ?_
      · exact ⟨rfl, rfl, rfl, rfl, trivial⟩
      · exact trivial
set_option maxHeartbeats 4000000 in
theorem MatrixError_t (m : List (List (List UInt8))) (hs : ∀ v ∈ m, ∀ a ∈ v, a.length ≤ 9223372036854775806) : PureOK Tryz.prog hints 11 [.v (.l (.l .s)) m] (fun V => V = .v (.i .i64) (matE m)) := by
  refine pure_rule (fn := Tryz.f11) (code := bodyOf Tryz.f11) tys_ok (by kernel_rfl) rfl Tryz.func11 (by kernel_rfl) (Nat.le_of_ble_eq_true (by kernel_rfl)) ?_
  have hE : matE m = match decide ((40 : Int) < (m.length : Int)) with | true => 2 | false => matL (wid m : Nat) m := rfl
  rw [hE]
  refine And.intro (fun h => ?_) (fun h => ?_)
  · have h' : decide ((40 : Int) < (m.length : Int)) = true := h
    rw [h']
    rfl
  · have h' : decide ((40 : Int) < (m.length : Int)) = false := h
    rw [h']
    have hl40 : m.length ≤ 40 := by have := of_decide_eq_false h'; omega
    refine loop_wp tys_ok rfl (fun (i : Nat) => [(0, .v (.l (.l .s)) m), (9, .v (.i .i64) (m.length : Int)), (10, .v (.i .i64) (i : Int))]) (fun _ => [])
      (fun i => i ≤ m.length ∧ matL (wid m : Nat) (m.drop i) = matL (wid m : Nat) m) (fun i => m.length - i) ?_ 0 ?_ ?_
    · rintro i ⟨hi, he⟩
      refine And.intro (fun h => ?_) (fun h => ?_)
      · have hlt : i < m.length := by have h' : (i : Int) < (m.length : Int) := of_decide_eq_true h; omega
        obtain ⟨r, hr⟩ : ∃ x, m[i] = x := ⟨_, rfl⟩
        have gr : m[(i : Int).toNat]? = some r := by rw [Int.toNat_natCast, List.getElem?_eq_getElem hlt, hr]
        have hrm := hs r (hr ▸ List.getElem_mem hlt)
        obtain ⟨r0, h0⟩ : ∃ x, m[0]'(by omega) = x := ⟨_, rfl⟩
        have g0 : m[(0 : Int).toNat]? = some r0 := by show m[0]? = _; rw [List.getElem?_eq_getElem (by omega), h0]
        have hw : wid m = r0.length := by
          cases m with
          | nil => exact absurd hlt (Nat.not_lt_zero _)
          | cons x l => rw [← h0]; rfl
        rw [List.drop_eq_getElem_cons hlt, hr, matL, hw] at he
        have wi : IntKind.i64.wrap ((i : Int) + 1) = ((i + 1 : Nat) : Int) := wrap64 (by omega) (by omega)
        refine ⟨r, Int.natCast_nonneg i, gr, ?_⟩
        refine ⟨r0, Int.le_refl 0, g0, ?_⟩
        refine And.intro (fun h2 => ?_) (fun h2 => ?_)
        · have h2' : (!decide ((r.length : Int) = (r0.length : Int))) = true := h2
          have hd : decide ((r.length : Int) = (r0.length : Int)) = false := by cases hd : decide ((r.length : Int) = (r0.length : Int)) <;> simp [hd] at h2' ⊢
          rw [hd] at he
          rw [hw]
          exact congrArg (SV.v (.i .i64)) he
        · have h2' : (!decide ((r.length : Int) = (r0.length : Int))) = false := h2
          have hd : decide ((r.length : Int) = (r0.length : Int)) = true := by cases hd : decide ((r.length : Int) = (r0.length : Int)) <;> simp [hd] at h2' ⊢
          rw [hd] at he
          simp only at he
          refine ⟨r, Int.natCast_nonneg i, gr, ?_⟩
          refine (VecError_t r hrm).mono ?_
          rintro _ rfl
          refine And.intro (fun h3 => ?_) (fun h3 => ?_)
          · have h3' : (!decide (vecE r = 0)) = true := h3
            have hd2 : decide (vecE r = 0) = false := by cases hd : decide (vecE r = 0) <;> simp [hd] at h3' ⊢
            rw [hd2] at he
            rw [hw]
            exact congrArg (SV.v (.i .i64)) he
          · have h3' : (!decide (vecE r = 0)) = false := h3
            have hd2 : decide (vecE r = 0) = true := by cases hd : decide (vecE r = 0) <;> simp [hd] at h3' ⊢
            rw [hd2] at he
            simp only at he
            refine ⟨i + 1, ⟨hlt, by rw [hw]; exact he⟩, by show m.length - (i + 1) < m.length - i; omega, ?_⟩
            refine ent_of rfl rfl ?_ ?_
            · exact ⟨rfl, rfl, wi.symm, trivial⟩
            · exact trivial
      · have hi2 : i = m.length := by have h' : ¬ (i : Int) < (m.length : Int) := of_decide_eq_false h; omega
        rw [List.drop_of_length_le (by omega)] at he
        exact congrArg (SV.v (.i .i64)) he
    · exact ⟨Nat.zero_le _, rfl⟩
    · refine ent_of rfl rfl ?_ ?_
      · exact ⟨rfl, rfl, rfl, trivial⟩
      · exact trivial
end Go.Proofs.YtnfgnkbgajhhbaaGreatDoor

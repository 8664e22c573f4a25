/-
  slices.Clone; (large.Int).DivMod.
-/
import Derived.Test.YtlnimeapichgmaaDoorT16
import Derived.Test.YtlnimeapichgmaaDoorT9
set_option linter.constructorNameAsVariable false
set_option linter.unusedSimpArgs false
set_option linter.unusedVariables false
namespace Go.Proofs.YtlnimeapichgmaaDoor
open Go.Am Go.Tx Dv
set_option maxRecDepth 100000
theorem is_nat (n : Nat) : IS (n : Int) = .agg [.v .b false, u32s (wOf n)] := by
  show SV.agg [.v .b (decide ((n : Int) < 0)), u32s (wOf (n : Int).natAbs)] = _
  rw [decide_eq_false (by omega), Int.natAbs_natCast]
set_option maxHeartbeats 4000000 in
theorem Clone_t (a : List Int) (hl : a.length ≤ 10000000) : PureOK Tryd.prog hints 56 [u32s a] (fun V => V = u32s a) := by
  refine PureOK.as (Q := fun V => V = u32s a ∨ (V = .nils ∧ a = [])) ?_ ?_
  rotate_left
  · rintro V (h | ⟨rfl, rfl⟩)
    · exact ⟨V, AsV.refl V, h⟩
    · exact ⟨_, AsV.nil _, rfl⟩
  refine pure_rule (fn := Tryd.f56) (code := bodyOf Tryd.f56) tys_ok (by kernel_rfl) rfl Tryd.func56 (by kernel_rfl) (Nat.le_of_ble_eq_true (by kernel_rfl)) ?_
  refine And.intro (fun hx => ?_) ?_
  · refine And.intro (fun _ => ?_) (fun h => nomatch h)
    exact .inr ⟨rfl, hx⟩
  · refine And.intro (fun h => nomatch h) (fun _ => ?_)
    refine And.intro (by show 0 + 0 ≤ 0; decide) ?_
    cases a with
    | nil =>
      refine And.intro (by show 0 + 0 ≤ 0; decide) ?_
      exact .inl rfl
    | cons x r =>
      refine And.intro (by show (0 + (r.length + 1)) * 4 ≤ _; simp at hl; omega) ?_
      refine And.intro (by show 0 + (0 + (r.length + 1)) ≤ (x :: r).length; simp) ?_
      refine .inl (congrArg u32s ?_)
      show sub (sub [] 0 0 ++ x :: r) 0 (0 + (r.length + 1)) = x :: r
      simp [sub]
theorem dm_q (a b : Int) (hb : 0 < b) (h : ¬ (sg (decide (a < 0)) ((a.natAbs % b.natAbs : Nat) : Int) < 0)) : sg (decide (a < 0)) ((a.natAbs / b.natAbs : Nat) : Int) = a / b ∧ sg (decide (a < 0)) ((a.natAbs % b.natAbs : Nat) : Int) = a % b := by
  obtain ⟨n, rfl⟩ : ∃ n : Nat, b = n := ⟨b.toNat, by omega⟩
  rw [Int.natAbs_natCast] at h ⊢
  by_cases ha : a < 0
  · obtain ⟨m, rfl⟩ : ∃ m : Nat, a = -(m : Int) := ⟨(-a).toNat, by omega⟩
    rw [decide_eq_true ha] at h ⊢
    rw [Int.natAbs_neg, Int.natAbs_natCast] at h ⊢
    simp only [sg] at h ⊢
    have h0 : m % n = 0 := by omega
    have e := Nat.div_add_mod m n
    rw [h0, Nat.add_zero] at e
    rw [h0]
    have em : -(m : Int) = (n : Int) * -((m / n : Nat) : Int) := by rw [Int.mul_neg, ← Int.natCast_mul, e]
    constructor
    · rw [em, Int.mul_ediv_cancel_left _ (by omega)]
    · rw [em, Int.mul_emod_right]; rfl
  · obtain ⟨m, rfl⟩ : ∃ m : Nat, a = m := ⟨a.toNat, by omega⟩
    rw [decide_eq_false ha, Int.natAbs_natCast]
    exact ⟨rfl, rfl⟩
theorem dm_r (a b : Int) (hb : 0 < b) (h : sg (decide (a < 0)) ((a.natAbs % b.natAbs : Nat) : Int) < 0) : sg (decide (a < 0)) ((a.natAbs / b.natAbs : Nat) : Int) - 1 = a / b ∧ sg (decide (a < 0)) ((a.natAbs % b.natAbs : Nat) : Int) + b = a % b := by
  obtain ⟨n, rfl⟩ : ∃ n : Nat, b = n := ⟨b.toNat, by omega⟩
  rw [Int.natAbs_natCast] at h ⊢
  by_cases ha : a < 0
  · obtain ⟨m, rfl⟩ : ∃ m : Nat, a = -(m : Int) := ⟨(-a).toNat, by omega⟩
    rw [decide_eq_true ha] at h ⊢
    rw [Int.natAbs_neg, Int.natAbs_natCast] at h ⊢
    simp only [sg] at h ⊢
    have h0 : 0 < m % n := by omega
    have h1 : m % n < n := Nat.mod_lt _ (by omega)
    have e := Nat.div_add_mod m n
    have em : -(m : Int) = (-((m % n : Nat) : Int) + n) + (n : Int) * (-((m / n : Nat) : Int) - 1) := by
      have : (m : Int) = (n : Int) * ((m / n : Nat) : Int) + ((m % n : Nat) : Int) := by rw [← Int.natCast_mul, ← Int.natCast_add, e]
      rw [this]; grind
    constructor
    · rw [em, Int.add_mul_ediv_left _ _ (by omega), Int.ediv_eq_zero_of_lt (by omega) (by omega)]; omega
    · rw [em, Int.add_mul_emod_self_left, Int.emod_eq_of_lt (by omega) (by omega)]
  · rw [decide_eq_false ha] at h
    simp only [sg] at h
    omega
theorem sg_abs (m : Bool) (x : Int) : (sg m x).natAbs = x.natAbs := by cases m <;> simp [sg]
def dmH (a b q r : Int) : List SM := [.cell [.v .b (decide (a < 0)), u32s (wOf a.natAbs)] true, .cell [.v .b (decide (b < 0)), u32s (wOf b.natAbs)] true, .cell [.v .b false, .nils] true, .cell [.v .b false, .nils] true, .cell [.v .b (decide (q < 0)), u32s (wOf q.natAbs)] true, .cell [.v .b (decide (r < 0)), u32s (wOf r.natAbs)] true]
set_option maxHeartbeats 8000000 in
theorem DivMod_t (a b : Int) (hb : 0 < b) (hla : ln a ≤ 700000) (hlb : ln b ≤ 700000) : PureOK Tryd.prog hints 40 [IS a, IS b] (fun V => V = .tup [IS (a / b), IS (a % b)]) := by
  have hla' : (wOf a.natAbs).length ≤ 700000 := hla
  have hlb' : (wOf b.natAbs).length ≤ 700000 := hlb
  refine pure_rule (fn := Tryd.f40) (code := bodyOf Tryd.f40) tys_ok (by kernel_rfl) rfl Tryd.func40 (by kernel_rfl) (Nat.le_of_ble_eq_true (by kernel_rfl)) ?_
  refine And.intro rfl ?_
  refine And.intro rfl ?_
  refine (divWords_t a.natAbs b.natAbs (by omega) (by omega) (by omega)).mono ?_
  rintro _ ⟨qw, rw_, rfl, q1, r1, q2, r2, q3, r3⟩
  refine And.intro rfl ?_
  refine (Clone_t qw (by omega)).mono ?_
  rintro _ rfl
  refine (norm_is _ qw q1 (by omega)).mono ?_
  rintro _ rfl
  refine And.intro rfl ?_
  refine (Clone_t rw_ (by omega)).mono ?_
  rintro _ rfl
  refine (norm_is _ rw_ r1 (by omega)).mono ?_
  rintro _ rfl
  obtain ⟨Q, hQ⟩ : ∃ Q, sg (decide (a < 0)) (wv qw) = Q := ⟨_, rfl⟩
  obtain ⟨R, hR⟩ : ∃ R, sg (decide (a < 0)) (wv rw_) = R := ⟨_, rfl⟩
  refine And.intro rfl ?_
  refine And.intro rfl ?_
  refine And.intro rfl ?_
  have hQR := hQ
  have hRR := hR
  rw [q3] at hQR
  rw [r3] at hRR
  refine And.intro (fun h => ?_) (fun h => ?_)
  · have h' : sg (decide (a < 0)) (wv rw_) < 0 := of_decide_eq_true h
    obtain ⟨e1, e2⟩ := dm_r a b hb (by rw [r3] at h'; exact h')
    refine wp_hp (dmH a b (sg (decide (a < 0)) (wv qw)) (sg (decide (a < 0)) (wv rw_))) rfl ?_
    have lq : ln Q ≤ 700001 := by
      rw [← hQR]
      refine Nat.le_trans (ln_mono (b := a) ?_) (by omega)
      have := Nat.div_le_self a.natAbs b.natAbs
      rw [sg_abs, Int.natAbs_natCast]; omega
    have lr : ln R ≤ 700001 := by
      rw [← hRR]
      refine Nat.le_trans (ln_mono (b := a) ?_) (by omega)
      have := Nat.mod_le a.natAbs b.natAbs
      rw [sg_abs, Int.natAbs_natCast]; omega
    refine And.intro rfl ?_
    refine (Of_t 1 (by decide) (by decide)).mono ?_
    rintro _ rfl
    have l1 : ln 1 ≤ 2 := ln_small (by decide)
    refine (Sub_t (sg (decide (a < 0)) (wv qw)) 1 (by rw [hQ]; omega) (by omega)).mono ?_
    rintro _ rfl
    refine And.intro rfl ?_
    refine And.intro rfl ?_
    refine (Add_t (sg (decide (a < 0)) (wv rw_)) b (by rw [hR]; omega) (by omega)).mono ?_
    rintro _ rfl
    refine And.intro rfl ?_
    refine And.intro rfl ?_
    refine wp_hp (dmH a b (sg (decide (a < 0)) (wv qw) - 1) (sg (decide (a < 0)) (wv rw_) + b)) rfl ?_
    refine ⟨rfl, rfl, rfl, rfl, rfl, rfl, ?_⟩
    show SV.tup [IS (sg (decide (a < 0)) (wv qw) - 1), IS (sg (decide (a < 0)) (wv rw_) + b)] = _
    rw [q3, r3, e1, e2]
  · have h' : ¬ sg (decide (a < 0)) (wv rw_) < 0 := of_decide_eq_false h
    obtain ⟨e1, e2⟩ := dm_q a b hb (by rw [r3] at h'; exact h')
    refine ⟨rfl, rfl, rfl, rfl, rfl, rfl, ?_⟩
    show SV.tup [IS (sg (decide (a < 0)) (wv qw)), IS (sg (decide (a < 0)) (wv rw_))] = _
    rw [q3, r3, e1, e2]
end Go.Proofs.YtlnimeapichgmaaDoor

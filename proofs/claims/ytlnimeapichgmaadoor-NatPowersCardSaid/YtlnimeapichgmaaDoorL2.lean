/-
  NatSums.
-/
import Derived.Test.YtlnimeapichgmaaDoorT22
import Derived.Test.YtlnimeapichgmaaDoorR2
import Derived.Test.YtlnimeapichgmaaDoorT21
set_option linter.constructorNameAsVariable false
set_option linter.unusedSimpArgs false
set_option linter.unusedVariables false
namespace Go.Proofs.YtlnimeapichgmaaDoor
open Go.Am Go.Tx Dv Go.Lib
set_option maxRecDepth 100000
theorem fst_two (a b : List UInt8) : fstE [natErr a, natErr b] = twoE a b := by
  simp only [fstE, twoE]
  cases decide (natErr a = 0) with
  | true =>
    simp only
    cases hd : decide (natErr b = 0) with
    | true => simp only; exact (of_decide_eq_true hd).symm
    | false => rfl
  | false => rfl
theorem natL_digits (n : Nat) : natL (decDigits n) = natT n := by
  unfold natL natT
  by_cases h : (decDigits n).length ≤ 2000
  · rw [decide_eq_false (by omega : ¬ (2000 : Int) < _), Nat.ble_eq_true_of_le h]
  · have hb : Nat.ble (decDigits n).length 2000 = false := by
      cases hb : Nat.ble (decDigits n).length 2000 with
      | false => rfl
      | true => exact absurd (Nat.le_of_ble_eq_true hb) h
    rw [decide_eq_true (by omega : (2000 : Int) < _), hb]
theorem natR_zero {a b : List UInt8} (h : twoE a b = 0) (x : List UInt8 × Int) : natR a b x = x := by
  unfold natR; rw [decide_eq_true h]
theorem natR_err {a b : List UInt8} (h : twoE a b ≠ 0) (x : List UInt8 × Int) : natR a b x = ([], twoE a b) := by
  unfold natR; rw [decide_eq_false h]
theorem first2_t (a b : List UInt8) : PureOK Tryd.prog hints 13 [.v (.l (.i .i64)) (sub [natErr a, natErr b] 0 2)] (fun V => V = .v (.i .i64) (twoE a b)) := by
  have h := first_t [natErr a, natErr b] (show 2 ≤ 1000000 by decide)
  rw [fst_two] at h
  exact h
def subX (a b : List UInt8) : List UInt8 × Int := match decide (dec a < dec b) with
  | true => ([], 4)
  | false => natT (dec a - dec b)
theorem natSubX_t (a b : List UInt8) (hla : a.length ≤ 9223372036854775806) (hlb : b.length ≤ 9223372036854775806) : PureOK Tryd.prog hints 12 [.v .s a, .v .s b] (fun V => V = rs (natR a b (subX a b))) := natSub_t a b hla hlb
set_option maxHeartbeats 4000000 in
theorem NatSums_l (a b : List UInt8) (hla : a.length ≤ 9223372036854775806) (hlb : b.length ≤ 9223372036854775806) : PureOK Tryd.prog hints 4 [.v .s a, .v .s b] (fun V => V = .v .b true) := by
  refine pure_rule (fn := Tryd.f4) (code := bodyOf Tryd.f4) tys_ok (by kernel_rfl) rfl Tryd.func4 (by kernel_rfl) (Nat.le_of_ble_eq_true (by kernel_rfl)) ?_
  have hA := natAdd_t a b hla hlb
  have hS := natSubX_t a b hla hlb
  have hF := first2_t a b
  refine natFact_t.mono ?_
  rintro _ rfl
  refine And.intro (fun h => nomatch h) (fun _ => ?_)
  by_cases hE : twoE a b = 0
  · rw [natR_zero hE] at hA hS
    rw [hE] at hF
    obtain ⟨ea, eb⟩ := twoE_zero hE
    obtain ⟨ca, la⟩ := natErr_zero ea
    obtain ⟨cb, lb⟩ := natErr_zero eb
    have hN := NatAdd_t a b ca.2.1 cb.2.1 (by omega) (by omega)
    have hL := natural_t (decDigits (dec a + dec b))
    rw [natL_digits] at hL
    obtain ⟨⟨r1, e1⟩, h1⟩ : ∃ x, natT (dec a + dec b) = x := ⟨_, rfl⟩
    rw [h1] at hA hL
    obtain ⟨⟨r2, e2⟩, h2⟩ : ∃ x, subX a b = x := ⟨_, rfl⟩
    rw [h2] at hS
    have hlt : dec a < dec b → r2 = [] ∧ e2 = 4 := fun h => by
      simp only [subX, decide_eq_true h] at h2
      cases h2
      exact ⟨rfl, rfl⟩
    have hge : ¬ dec a < dec b → r2 = decDigits (dec a - dec b) ∧ e2 = 0 := fun h => by
      simp only [subX, decide_eq_false h] at h2
      rw [natT_small (Nat.lt_of_le_of_lt (Nat.sub_le _ _) (dec_two ea))] at h2
      cases h2
      exact ⟨rfl, rfl⟩
    clear h2
    refine hA.mono ?_
    rintro _ rfl
    refine hS.mono ?_
    rintro _ rfl
    refine (NatError_t a hla).mono ?_
    rintro _ rfl
    refine (NatError_t b hlb).mono ?_
    rintro _ rfl
    refine And.intro (show 0 + 2 ≤ 2 by decide) ?_
    refine hF.mono ?_
    rintro _ rfl
    refine And.intro (fun h => nomatch h) (fun _ => ?_)
    first | refine wpg_seq (wpg_region rfl ?_) | refine wpg_seq (wpg_seq (wpg_region rfl ?_))
    iterate 2 refine wpg_v rfl (fun _ => rfl) rfl rfl ?_
    refine wpg_op rfl (hN.mono ?_)
    rintro _ rfl
    refine wpg_put rfl rfl ?_
    refine wpg_op rfl (hL.mono ?_)
    rintro _ rfl
    refine wpg_put rfl rfl ?_
    iterate 5 refine wpg_v rfl (fun _ => rfl) rfl rfl ?_
    refine wpg_nil ?_
    first | refine wpg_seq (wpg_region rfl ?_) | refine wpg_seq (wpg_seq (wpg_region rfl ?_))
    have he1 : (!decide (e1 = e1)) = false := by rw [decide_eq_true rfl]; rfl
    have hr1 : (r1 != r1) = false := by simp
    iterate 4 refine wpg_v rfl (fun _ => rfl) rfl rfl ?_
    iterate 3 refine wpg_vg rfl rfl rfl he1 (fun _ => rfl) rfl rfl ?_
    refine wpg_pf rfl rfl rfl he1 rfl rfl rfl ?_
    refine wpg_nil ?_
    refine And.intro (fun h => ?_) (fun _ => ?_)
    · have h' : (r1 != r1) = true := h
      rw [hr1] at h'
      cases h'
    refine (NatCmp_t a b ca cb (by omega) (by omega)).mono ?_
    rintro _ rfl
    refine And.intro (fun h => ?_) (fun h => ?_)
    · have h' : ((dec a : Int) - (dec b : Int)).sign < 0 := of_decide_eq_true h
      obtain ⟨rfl, rfl⟩ := hlt (by have := Int.sign_neg_iff.1 h'; omega)
      refine wpg_seq (wpg_region rfl ?_)
      iterate 3 refine wpg_v rfl (fun _ => rfl) rfl rfl ?_
      iterate 2 refine wpg_vg rfl rfl rfl rfl (fun _ => rfl) rfl rfl ?_
      refine wpg_pt rfl rfl rfl rfl rfl rfl rfl ?_
      refine wpg_v rfl (fun _ => rfl) rfl rfl ?_
      refine wpg_nil ?_
      rfl
    · have h' : ¬ ((dec a : Int) - (dec b : Int)).sign < 0 := of_decide_eq_false h
      have hle : ¬ dec a < dec b := fun hlt => h' (Int.sign_neg_iff.2 (by omega))
      obtain ⟨rfl, rfl⟩ := hge hle
      have hQ := NatSub_t a b ca.2.1 cb.2.1 (by omega) (by omega) (by omega)
      have hw : (decDigits (dec a - dec b) == decDigits (dec a - dec b)) = true := by simp
      refine wpg_seq (wpg_region rfl ?_)
      iterate 3 refine wpg_v rfl (fun _ => rfl) rfl rfl ?_
      iterate 3 refine wpg_vg rfl rfl rfl rfl (fun _ => rfl) rfl rfl ?_
      refine wpg_run rfl rfl rfl rfl (hQ.mono ?_)
      rintro _ rfl
      refine wpg_put rfl rfl ?_
      refine wpg_vg rfl rfl rfl rfl (fun _ => rfl) rfl rfl ?_
      refine wpg_pt rfl rfl rfl rfl rfl rfl rfl ?_
      refine wpg_v rfl (fun _ => rfl) rfl rfl ?_
      refine wpg_nil ?_
      show SV.v .b (decDigits (dec a - dec b) == decDigits (dec a - dec b)) = _
      rw [hw]
  · rw [natR_err hE] at hA hS
    refine hA.mono ?_
    rintro _ rfl
    refine hS.mono ?_
    rintro _ rfl
    refine (NatError_t a hla).mono ?_
    rintro _ rfl
    refine (NatError_t b hlb).mono ?_
    rintro _ rfl
    refine And.intro (show 0 + 2 ≤ 2 by decide) ?_
    refine hF.mono ?_
    rintro _ rfl
    generalize twoE a b = E at *
    have h0 : decide (E = 0) = false := decide_eq_false hE
    have hn : (!decide (E = 0)) = true := by rw [h0]; rfl
    refine And.intro (fun _ => ?_) (fun h => (nf hn h).elim)
    have hd : decide (E = E) = true := decide_eq_true rfl
    refine wpg_seq (wpg_region rfl ?_)
    iterate 4 refine wpg_v rfl (fun _ => rfl) rfl rfl ?_
    iterate 3 refine wpg_vg rfl rfl rfl hd (fun _ => rfl) rfl rfl ?_
    refine wpg_pt rfl rfl rfl hd rfl rfl rfl ?_
    refine wpg_v rfl (fun _ => rfl) rfl rfl ?_
    iterate 2 refine wpg_vg rfl rfl rfl hd (fun _ => rfl) rfl rfl ?_
    refine wpg_pt rfl rfl rfl hd rfl rfl rfl ?_
    refine wpg_v rfl (fun _ => rfl) rfl rfl ?_
    iterate 2 refine wpg_vg rfl rfl rfl rfl (fun _ => rfl) rfl rfl ?_
    refine wpg_pt rfl rfl rfl rfl rfl rfl rfl ?_
    refine wpg_v rfl (fun _ => rfl) rfl rfl ?_
    refine wpg_nil ?_
    rfl
end Go.Proofs.YtlnimeapichgmaaDoor

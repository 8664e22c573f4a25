/-
  NatDivides.
-/
import Derived.Test.YtlnimeapichgmaaDoorL3
import Derived.Test.YtlnimeapichgmaaDoorR4
set_option linter.constructorNameAsVariable false
set_option linter.unusedSimpArgs false
set_option linter.unusedVariables false
namespace Go.Proofs.YtlnimeapichgmaaDoor
open Go.Am Go.Tx Dv Go.Lib
set_option maxRecDepth 100000
theorem divR_err {a b : List UInt8} (h : twoE a b ≠ 0) : divR a b = ([], [], twoE a b) := by
  unfold divR; rw [decide_eq_false h]
theorem divR_zero {a b : List UInt8} (h : twoE a b = 0) (h0 : dec b = 0) : divR a b = ([], [], 10) := by
  unfold divR; rw [decide_eq_true h, decide_eq_true h0]
theorem divR_ok {a b : List UInt8} (h : twoE a b = 0) (h0 : dec b ≠ 0) : divR a b = (decDigits (dec a / dec b), decDigits (dec a % dec b), 0) := by
  unfold divR; rw [decide_eq_true h, decide_eq_false h0]
set_option maxHeartbeats 4000000 in
theorem NatDivides_l (a b : List UInt8) (hla : a.length ≤ 9223372036854775806) (hlb : b.length ≤ 9223372036854775806) : PureOK Tryd.prog hints 6 [.v .s a, .v .s b] (fun V => V = .v .b true) := by
  refine pure_rule (fn := Tryd.f6) (code := bodyOf Tryd.f6) tys_ok (by kernel_rfl) rfl Tryd.func6 (by kernel_rfl) (Nat.le_of_ble_eq_true (by kernel_rfl)) ?_
  have hA := natDivide_t a b hla hlb
  have hG := natGcd_t a b hla hlb
  have hF := first2_t a b
  have hLo := long2_t 120 a b
  refine natFact_t.mono ?_
  rintro _ rfl
  refine And.intro (fun h => nomatch h) (fun _ => ?_)
  by_cases hE : twoE a b = 0
  · rw [natR_zero hE] at hG
    rw [hE] at hF
    obtain ⟨ea, eb⟩ := twoE_zero hE
    obtain ⟨ca, la⟩ := natErr_zero ea
    obtain ⟨cb, lb⟩ := natErr_zero eb
    have hda := dec_two ea
    have hdb := dec_two eb
    have hgl : Nat.gcd (dec a) (dec b) = 0 ∨ Nat.gcd (dec a) (dec b) ≤ dec a ∨ Nat.gcd (dec a) (dec b) ≤ dec b := by
      rcases Nat.eq_zero_or_pos (dec a) with h | h
      · right; right; rw [h, Nat.gcd_zero_left]; exact Nat.le_refl _
      · right; left; exact Nat.gcd_le_left _ h
    rw [natT_small (by omega)] at hG
    have hQ := NatGcd_t a b ca cb (by omega) (by omega)
    obtain ⟨g, hg⟩ : ∃ g, decDigits (Nat.gcd (dec a) (dec b)) = g := ⟨_, rfl⟩
    rw [hg] at hG hQ
    have hgg : (g != g) = false := by simp
    obtain ⟨⟨q, r, e⟩, hq⟩ : ∃ x, divR a b = x := ⟨_, rfl⟩
    rw [hq] at hA
    have hz0 : dec b = 0 → q = [] ∧ r = [] ∧ e = 10 := fun h => by
      rw [divR_zero hE h] at hq
      cases hq
      exact ⟨rfl, rfl, rfl⟩
    have hz1 : dec b ≠ 0 → q = decDigits (dec a / dec b) ∧ r = decDigits (dec a % dec b) ∧ e = 0 := fun h => by
      rw [divR_ok hE h] at hq
      cases hq
      exact ⟨rfl, rfl, rfl⟩
    clear hq
    refine hA.mono ?_
    rintro _ rfl
    refine hG.mono ?_
    rintro _ rfl
    refine (NatError_t a hla).mono ?_
    rintro _ rfl
    refine (NatError_t b hlb).mono ?_
    rintro _ rfl
    refine And.intro (show 0 + 2 ≤ 2 by decide) ?_
    refine hF.mono ?_
    rintro _ rfl
    refine And.intro (fun h => nomatch h) (fun _ => ?_)
    refine And.intro (show 0 + 2 ≤ 2 by decide) ?_
    refine hLo.mono ?_
    rintro _ rfl
    refine And.intro (fun _ => rfl) (fun _ => ?_)
    first | refine wpg_seq (wpg_region rfl ?_) | refine wpg_seq (wpg_seq (wpg_region rfl ?_))
    iterate 3 refine wpg_v rfl (fun _ => rfl) rfl rfl ?_
    iterate 3 refine wpg_vg rfl rfl rfl rfl (fun _ => rfl) rfl rfl ?_
    refine wpg_run rfl rfl rfl rfl (hQ.mono ?_)
    rintro _ rfl
    refine wpg_put rfl rfl ?_
    refine wpg_vg rfl rfl rfl rfl (fun _ => rfl) rfl rfl ?_
    refine wpg_pf rfl rfl rfl rfl rfl rfl rfl ?_
    refine wpg_nil ?_
    refine And.intro (fun h => ?_) (fun _ => ?_)
    · have h' : (g != g) = true := h
      rw [hgg] at h'
      cases h'
    have hbz : (b == [48]) = decide (dec b = 0) := by
      have := zero_text (dec b)
      rw [cb.eq] at this
      exact this
    refine And.intro (fun h => ?_) (fun h => ?_)
    · have h' : (b == [48]) = true := h
      rw [hbz] at h'
      obtain ⟨rfl, rfl, rfl⟩ := hz0 (of_decide_eq_true h')
      refine wpg_seq (wpg_region rfl ?_)
      iterate 3 refine wpg_v rfl (fun _ => rfl) rfl rfl ?_
      iterate 2 refine wpg_vg rfl rfl rfl rfl (fun _ => rfl) rfl rfl ?_
      refine wpg_pt rfl rfl rfl rfl rfl rfl rfl ?_
      refine wpg_v rfl (fun _ => rfl) rfl rfl ?_
      iterate 2 refine wpg_vg rfl rfl rfl rfl (fun _ => rfl) rfl rfl ?_
      refine wpg_pt rfl rfl rfl rfl rfl rfl rfl ?_
      refine wpg_v rfl (fun _ => rfl) rfl rfl ?_
      refine wpg_nil ?_
      rfl
    · have h' : (b == [48]) = false := h
      rw [hbz] at h'
      have hb0 : dec b ≠ 0 := of_decide_eq_false h'
      obtain ⟨rfl, rfl, rfl⟩ := hz1 hb0
      have hD := NatDiv_t a b ca.2.1 cb (by omega) (by omega) (by omega)
      obtain ⟨q, hq⟩ : ∃ g, decDigits (dec a / dec b) = g := ⟨_, rfl⟩
      obtain ⟨r, hr⟩ : ∃ g, decDigits (dec a % dec b) = g := ⟨_, rfl⟩
      have hqq : (q == q) = true := by simp
      have hrr : (r == r) = true := by simp
      rw [hq, hr] at hD ⊢
      refine hD.mono ?_
      rintro _ rfl
      refine wpg_seq (wpg_region rfl ?_)
      iterate 3 refine wpg_v rfl (fun _ => rfl) rfl rfl ?_
      iterate 3 refine wpg_vg rfl rfl rfl rfl (fun _ => rfl) rfl rfl ?_
      refine wpg_pt rfl rfl rfl rfl rfl rfl rfl ?_
      refine wpg_v rfl (fun _ => rfl) rfl rfl ?_
      iterate 3 refine wpg_vg rfl rfl rfl hqq (fun _ => rfl) rfl rfl ?_
      refine wpg_pt rfl rfl rfl hqq rfl rfl rfl ?_
      refine wpg_v rfl (fun _ => rfl) rfl rfl ?_
      refine wpg_nil ?_
      show SV.v .b (r == r) = _
      rw [hrr]
  · rw [natR_err hE] at hG
    rw [divR_err hE] at hA
    refine hA.mono ?_
    rintro _ rfl
    refine hG.mono ?_
    rintro _ rfl
    refine (NatError_t a hla).mono ?_
    rintro _ rfl
    refine (NatError_t b hlb).mono ?_
    rintro _ rfl
    refine And.intro (show 0 + 2 ≤ 2 by decide) ?_
    refine hF.mono ?_
    rintro _ rfl
    generalize twoE a b = E at *
    have h0 : decide (E = 0) = false := decide_eq_false hE
    have hn : (!decide (E = 0)) = true := by rw [h0]; rfl
    refine And.intro (fun _ => ?_) (fun h => (nf hn h).elim)
    have hd : decide (E = E) = true := decide_eq_true rfl
    refine wpg_seq (wpg_region rfl ?_)
    iterate 4 refine wpg_v rfl (fun _ => rfl) rfl rfl ?_
    iterate 3 refine wpg_vg rfl rfl rfl hd (fun _ => rfl) rfl rfl ?_
    refine wpg_pt rfl rfl rfl hd rfl rfl rfl ?_
    refine wpg_v rfl (fun _ => rfl) rfl rfl ?_
    iterate 2 refine wpg_vg rfl rfl rfl hd (fun _ => rfl) rfl rfl ?_
    refine wpg_pt rfl rfl rfl hd rfl rfl rfl ?_
    refine wpg_v rfl (fun _ => rfl) rfl rfl ?_
    iterate 2 refine wpg_vg rfl rfl rfl rfl (fun _ => rfl) rfl rfl ?_
    refine wpg_pt rfl rfl rfl rfl rfl rfl rfl ?_
    refine wpg_v rfl (fun _ => rfl) rfl rfl ?_
    iterate 2 refine wpg_vg rfl rfl rfl rfl (fun _ => rfl) rfl rfl ?_
    refine wpg_pt rfl rfl rfl rfl rfl rfl rfl ?_
    refine wpg_v rfl (fun _ => rfl) rfl rfl ?_
    refine wpg_nil ?_
    rfl
end Go.Proofs.YtlnimeapichgmaaDoor

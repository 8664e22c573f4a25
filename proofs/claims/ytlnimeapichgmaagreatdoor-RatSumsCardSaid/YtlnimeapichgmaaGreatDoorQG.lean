/-
  The laws RatSums, RatProducts, RatCompares.
-/
import Derived.Test.YtlnimeapichgmaaGreatDoorQE
set_option linter.constructorNameAsVariable false
set_option linter.unusedSimpArgs false
set_option linter.unusedVariables false
namespace Go.Proofs.YtlnimeapichgmaaGreatDoor
open Go.Am Go.Tx Dv Go.Lib
set_option maxRecDepth 100000
set_option maxHeartbeats 8000000 in
theorem RatSums_l (a b : List UInt8) (hla : a.length ≤ 9223372036854775806) (hlb : b.length ≤ 9223372036854775806) : PureOK Tryz.prog hints 5 [.v .s a, .v .s b] (fun V => V = .v .b true) := by
  refine pure_rule (fn := Tryz.f5) (code := bodyOf Tryz.f5) tys_ok (by kernel_rfl) rfl Tryz.func5 (by kernel_rfl) (Nat.le_of_ble_eq_true (by kernel_rfl)) ?_
  have cE := RatErrors2_t a b hla hlb
  have cA := RatError_t a hla
  obtain ⟨z, hN, hz1, hz2⟩ := QNeg_t a hla
  obtain ⟨A, eA⟩ : ∃ x, ratErr a = x := ⟨_, rfl⟩
  have hA := decide_eq_true (rfl : A = A)
  have hAn : (!decide (A = A)) = false := by rw [hA]; rfl
  refine ratFact_t.mono ?_
  rintro _ rfl
  refine And.intro (fun h => nomatch h) (fun _ => ?_)
  by_cases hE : twoQ a b = 0
  · obtain ⟨r1, r2⟩ := twoQ_zero hE
    obtain ⟨p, rfl, hp⟩ := ratErr_zero r1
    obtain ⟨q, rfl, hq⟩ := ratErr_zero r2
    have x1 := QAdd_ok p q hp hq
    have x2 := QSub_ok p q hp hq
    rw [hE] at cE
    rw [r1] at cA hN
    have hz := hz2 p hp rfl
    obtain ⟨⟨X, e⟩, hX⟩ : ∃ x, ratR (p + q) = x := ⟨_, rfl⟩
    obtain ⟨⟨Y, f⟩, hY⟩ : ∃ x, ratR (p - q) = x := ⟨_, rfl⟩
    rw [hX] at x1
    rw [hY] at x2
    refine x1.mono ?_
    rintro _ rfl
    refine x2.mono ?_
    rintro _ rfl
    refine hN.mono ?_
    rintro _ rfl
    refine And.intro (show 0 + 2 ≤ 2 by decide) ?_
    refine cE.mono ?_
    rintro _ rfl
    repeat (first | refine wpg_skipc ?_ | refine wpg_next ?_ | refine wpg_blkout ?_)
    first | refine wpg_seq (wpg_region (id := 7) rfl ?_) | refine wpg_seq (wpg_seq (wpg_region (id := 7) rfl ?_)) | refine wpg_region (id := 7) rfl ?_ | refine wpg_seq (wpg_block rfl (wpg_seq (wpg_region (id := 7) rfl ?_))) | refine wpg_block rfl (wpg_seq (wpg_region (id := 7) rfl ?_))
    refine wpg_v rfl (fun _ => rfl) rfl rfl ?_
    refine wpg_v rfl (fun _ => rfl) rfl rfl ?_
    refine wpg_op rfl ((cA).mono ?_)
    rintro _ rfl
    refine wpg_put rfl rfl ?_
    refine wpg_v rfl (fun _ => rfl) rfl rfl ?_
    refine wpg_v rfl (fun _ => rfl) rfl rfl ?_
    refine wpg_vg rfl rfl rfl rfl (fun _ => rfl) rfl rfl ?_
    refine wpg_vg rfl rfl rfl rfl (fun _ => rfl) rfl rfl ?_
    refine wpg_vg rfl rfl rfl rfl (fun _ => rfl) rfl rfl ?_
    refine wpg_skip rfl rfl rfl rfl rfl rfl ?_
    refine wpg_skip rfl rfl rfl rfl rfl rfl ?_
    refine wpg_pfg rfl rfl rfl rfl rfl rfl rfl rfl rfl rfl ?_
    refine wpg_pf rfl rfl rfl rfl rfl rfl rfl ?_
    refine wpg_nil ?_
    repeat (first | refine wpg_next ?_ | refine wpg_blkout ?_)
    refine And.intro (fun h => by cases h) (fun _ => ?_)
    refine And.intro (fun h => by cases h) (fun _ => ?_)
    refine And.intro (show 0 + 2 ≤ 2 by decide) ?_
    refine (long2_t 100 (ratT p) (ratT q)).mono ?_
    rintro _ rfl
    cases hlo : longB 100 [ratT p, ratT q] with
    | true =>
      refine And.intro (fun _ => ?_) (fun h => nomatch h)
      rfl
    | false =>
      obtain ⟨l1, l2⟩ := longB_two hlo
      have dp := dz_text (p := p) (k := 100) (by omega) (by decide)
      have dq := dz_text (p := q) (k := 100) (by omega) (by decide)
      have da := dz_add dp dq
      have ds := dz_add dp (dz_neg dq)
      rw [← Rat.sub_eq_add_neg] at ds
      rw [ratR_dz (by decide) da] at hX
      rw [ratR_dz (by decide) ds] at hY
      cases hX
      cases hY
      have y1 := RatAdd_t p q (by decide) dp dq
      have y2 := RatSub_t p q (by decide) dp dq
      have y3 := RatNeg_t p (by decide) dp
      subst hz
      obtain ⟨X, eX⟩ : ∃ x, ratT (p + q) = x := ⟨_, rfl⟩
      obtain ⟨Y, eY⟩ : ∃ x, ratT (p - q) = x := ⟨_, rfl⟩
      obtain ⟨Z, eZ⟩ : ∃ x, ratT (-p) = x := ⟨_, rfl⟩
      rw [eX] at y1 ⊢
      rw [eY] at y2 ⊢
      rw [eZ] at y3 ⊢
      have bX := beq_self X
      have bY := beq_self Y
      have bZ := beq_self Z
      refine And.intro (fun h => nomatch h) (fun _ => ?_)
      repeat (first | refine wpg_skipc ?_ | refine wpg_next ?_ | refine wpg_blkout ?_)
      first | refine wpg_seq (wpg_region (id := 13) rfl ?_) | refine wpg_seq (wpg_seq (wpg_region (id := 13) rfl ?_)) | refine wpg_region (id := 13) rfl ?_ | refine wpg_seq (wpg_block rfl (wpg_seq (wpg_region (id := 13) rfl ?_))) | refine wpg_block rfl (wpg_seq (wpg_region (id := 13) rfl ?_))
      refine wpg_v rfl (fun _ => rfl) rfl rfl ?_
      refine wpg_v rfl (fun _ => rfl) rfl rfl ?_
      refine wpg_v rfl (fun _ => rfl) rfl rfl ?_
      refine wpg_vg rfl rfl rfl rfl (fun _ => rfl) rfl rfl ?_
      refine wpg_vg rfl rfl rfl rfl (fun _ => rfl) rfl rfl ?_
      refine wpg_pt rfl rfl rfl rfl rfl rfl rfl ?_
      refine wpg_v rfl (fun _ => rfl) rfl rfl ?_
      refine wpg_vg rfl rfl rfl rfl (fun _ => rfl) rfl rfl ?_
      refine wpg_vg rfl rfl rfl rfl (fun _ => rfl) rfl rfl ?_
      refine wpg_vg rfl rfl rfl rfl (fun _ => rfl) rfl rfl ?_
      refine wpg_run rfl rfl rfl rfl ((y1).mono ?_)
      rintro _ rfl
      refine wpg_put rfl rfl ?_
      refine wpg_vg rfl rfl rfl rfl (fun _ => rfl) rfl rfl ?_
      refine wpg_pt rfl rfl rfl rfl rfl rfl rfl ?_
      refine wpg_v rfl (fun _ => rfl) rfl rfl ?_
      refine wpg_vg rfl rfl rfl bX (fun _ => rfl) rfl rfl ?_
      refine wpg_vg rfl rfl rfl bX (fun _ => rfl) rfl rfl ?_
      refine wpg_vg rfl rfl rfl bX (fun _ => rfl) rfl rfl ?_
      refine wpg_run rfl rfl rfl bX ((y2).mono ?_)
      rintro _ rfl
      refine wpg_put rfl rfl ?_
      refine wpg_vg rfl rfl rfl bX (fun _ => rfl) rfl rfl ?_
      refine wpg_pt rfl rfl rfl bX rfl rfl rfl ?_
      refine wpg_v rfl (fun _ => rfl) rfl rfl ?_
      refine wpg_vg rfl rfl rfl bY (fun _ => rfl) rfl rfl ?_
      refine wpg_vg rfl rfl rfl bY (fun _ => rfl) rfl rfl ?_
      refine wpg_run rfl rfl rfl bY ((y3).mono ?_)
      rintro _ rfl
      refine wpg_put rfl rfl ?_
      refine wpg_vg rfl rfl rfl bY (fun _ => rfl) rfl rfl ?_
      refine wpg_pt rfl rfl rfl bY rfl rfl rfl ?_
      refine wpg_v rfl (fun _ => rfl) rfl rfl ?_
      refine wpg_nil ?_
      repeat (first | refine wpg_next ?_ | refine wpg_blkout ?_)
      show SV.v .b (Z == Z) = _
      rw [bZ]
  · have x1 := QAdd_err a b hla hlb hE
    have x2 := QSub_err a b hla hlb hE
    rw [eA] at cA hN hz1
    obtain ⟨E, eE⟩ : ∃ x, twoQ a b = x := ⟨_, rfl⟩
    rw [eE] at x1 x2 cE hE
    have hEE := decide_eq_true (rfl : E = E)
    have hEn : (!decide (E = 0)) = true := by rw [decide_eq_false hE]; rfl
    refine x1.mono ?_
    rintro _ rfl
    refine x2.mono ?_
    rintro _ rfl
    refine hN.mono ?_
    rintro _ rfl
    refine And.intro (show 0 + 2 ≤ 2 by decide) ?_
    refine cE.mono ?_
    rintro _ rfl
    cases hA0 : decide (A = 0) with
    | true =>
      have hA1 : (!decide (A = 0)) = false := by rw [hA0]; rfl
      repeat (first | refine wpg_skipc ?_ | refine wpg_next ?_ | refine wpg_blkout ?_)
      first | refine wpg_seq (wpg_region (id := 7) rfl ?_) | refine wpg_seq (wpg_seq (wpg_region (id := 7) rfl ?_)) | refine wpg_region (id := 7) rfl ?_ | refine wpg_seq (wpg_block rfl (wpg_seq (wpg_region (id := 7) rfl ?_))) | refine wpg_block rfl (wpg_seq (wpg_region (id := 7) rfl ?_))
      refine wpg_v rfl (fun _ => rfl) rfl rfl ?_
      refine wpg_v rfl (fun _ => rfl) rfl rfl ?_
      refine wpg_op rfl ((cA).mono ?_)
      rintro _ rfl
      refine wpg_put rfl rfl ?_
      refine wpg_v rfl (fun _ => rfl) rfl rfl ?_
      refine wpg_v rfl (fun _ => rfl) rfl rfl ?_
      refine wpg_vg rfl rfl rfl hAn (fun _ => rfl) rfl rfl ?_
      refine wpg_vg rfl rfl rfl hAn (fun _ => rfl) rfl rfl ?_
      refine wpg_vg rfl rfl rfl hAn (fun _ => rfl) rfl rfl ?_
      refine wpg_skip rfl rfl rfl hA1 rfl rfl ?_
      refine wpg_skip rfl rfl rfl hA1 rfl rfl ?_
      refine wpg_pfg rfl rfl rfl hAn rfl rfl hA1 rfl rfl rfl ?_
      refine wpg_pf rfl rfl rfl hAn rfl rfl rfl ?_
      refine wpg_nil ?_
      repeat (first | refine wpg_next ?_ | refine wpg_blkout ?_)
      refine And.intro (fun h => by first | (cases h; done) | exact (nf h hA1).elim) (fun _ => ?_)
      refine And.intro (fun _ => ?_) (fun h => by first | (cases h; done) | exact (nf hEn h).elim)
      repeat (first | refine wpg_skipc ?_ | refine wpg_next ?_ | refine wpg_blkout ?_)
      first | refine wpg_seq (wpg_region (id := 10) rfl ?_) | refine wpg_seq (wpg_seq (wpg_region (id := 10) rfl ?_)) | refine wpg_region (id := 10) rfl ?_ | refine wpg_seq (wpg_block rfl (wpg_seq (wpg_region (id := 10) rfl ?_))) | refine wpg_block rfl (wpg_seq (wpg_region (id := 10) rfl ?_))
      refine wpg_v rfl (fun _ => rfl) rfl rfl ?_
      refine wpg_v rfl (fun _ => rfl) rfl rfl ?_
      refine wpg_v rfl (fun _ => rfl) rfl rfl ?_
      refine wpg_v rfl (fun _ => rfl) rfl rfl ?_
      refine wpg_vg rfl rfl rfl hEE (fun _ => rfl) rfl rfl ?_
      refine wpg_vg rfl rfl rfl hEE (fun _ => rfl) rfl rfl ?_
      refine wpg_vg rfl rfl rfl hEE (fun _ => rfl) rfl rfl ?_
      refine wpg_pt rfl rfl rfl hEE rfl rfl rfl ?_
      refine wpg_v rfl (fun _ => rfl) rfl rfl ?_
      refine wpg_vg rfl rfl rfl hEE (fun _ => rfl) rfl rfl ?_
      refine wpg_vg rfl rfl rfl hEE (fun _ => rfl) rfl rfl ?_
      refine wpg_pt rfl rfl rfl hEE rfl rfl rfl ?_
      refine wpg_v rfl (fun _ => rfl) rfl rfl ?_
      refine wpg_vg rfl rfl rfl rfl (fun _ => rfl) rfl rfl ?_
      refine wpg_vg rfl rfl rfl rfl (fun _ => rfl) rfl rfl ?_
      refine wpg_pt rfl rfl rfl rfl rfl rfl rfl ?_
      refine wpg_v rfl (fun _ => rfl) rfl rfl ?_
      refine wpg_nil ?_
      repeat (first | refine wpg_next ?_ | refine wpg_blkout ?_)
      rfl
    | false =>
      have hA1 : (!decide (A = 0)) = true := by rw [hA0]; rfl
      have hz := hz1 (of_decide_eq_false hA0)
      subst hz
      repeat (first | refine wpg_skipc ?_ | refine wpg_next ?_ | refine wpg_blkout ?_)
      first | refine wpg_seq (wpg_region (id := 7) rfl ?_) | refine wpg_seq (wpg_seq (wpg_region (id := 7) rfl ?_)) | refine wpg_region (id := 7) rfl ?_ | refine wpg_seq (wpg_block rfl (wpg_seq (wpg_region (id := 7) rfl ?_))) | refine wpg_block rfl (wpg_seq (wpg_region (id := 7) rfl ?_))
      refine wpg_v rfl (fun _ => rfl) rfl rfl ?_
      refine wpg_v rfl (fun _ => rfl) rfl rfl ?_
      refine wpg_op rfl ((cA).mono ?_)
      rintro _ rfl
      refine wpg_put rfl rfl ?_
      refine wpg_v rfl (fun _ => rfl) rfl rfl ?_
      refine wpg_v rfl (fun _ => rfl) rfl rfl ?_
      refine wpg_vg rfl rfl rfl hAn (fun _ => rfl) rfl rfl ?_
      refine wpg_vg rfl rfl rfl hAn (fun _ => rfl) rfl rfl ?_
      refine wpg_vg rfl rfl rfl hAn (fun _ => rfl) rfl rfl ?_
      refine wpg_vg rfl rfl rfl hA1 (fun _ => rfl) rfl rfl ?_
      refine wpg_vg rfl rfl rfl hA1 (fun _ => rfl) rfl rfl ?_
      refine wpg_ptg rfl rfl rfl hAn rfl rfl hA1 rfl rfl rfl ?_
      refine wpg_pf rfl rfl rfl hAn rfl rfl rfl ?_
      refine wpg_nil ?_
      repeat (first | refine wpg_next ?_ | refine wpg_blkout ?_)
      refine And.intro (fun h => by cases h) (fun _ => ?_)
      refine And.intro (fun _ => ?_) (fun h => by first | (cases h; done) | exact (nf hEn h).elim)
      repeat (first | refine wpg_skipc ?_ | refine wpg_next ?_ | refine wpg_blkout ?_)
      first | refine wpg_seq (wpg_region (id := 10) rfl ?_) | refine wpg_seq (wpg_seq (wpg_region (id := 10) rfl ?_)) | refine wpg_region (id := 10) rfl ?_ | refine wpg_seq (wpg_block rfl (wpg_seq (wpg_region (id := 10) rfl ?_))) | refine wpg_block rfl (wpg_seq (wpg_region (id := 10) rfl ?_))
      refine wpg_v rfl (fun _ => rfl) rfl rfl ?_
      refine wpg_v rfl (fun _ => rfl) rfl rfl ?_
      refine wpg_v rfl (fun _ => rfl) rfl rfl ?_
      refine wpg_v rfl (fun _ => rfl) rfl rfl ?_
      refine wpg_vg rfl rfl rfl hEE (fun _ => rfl) rfl rfl ?_
      refine wpg_vg rfl rfl rfl hEE (fun _ => rfl) rfl rfl ?_
      refine wpg_vg rfl rfl rfl hEE (fun _ => rfl) rfl rfl ?_
      refine wpg_pt rfl rfl rfl hEE rfl rfl rfl ?_
      refine wpg_v rfl (fun _ => rfl) rfl rfl ?_
      refine wpg_vg rfl rfl rfl hEE (fun _ => rfl) rfl rfl ?_
      refine wpg_vg rfl rfl rfl hEE (fun _ => rfl) rfl rfl ?_
      refine wpg_pt rfl rfl rfl hEE rfl rfl rfl ?_
      refine wpg_v rfl (fun _ => rfl) rfl rfl ?_
      refine wpg_vg rfl rfl rfl rfl (fun _ => rfl) rfl rfl ?_
      refine wpg_vg rfl rfl rfl rfl (fun _ => rfl) rfl rfl ?_
      refine wpg_pt rfl rfl rfl rfl rfl rfl rfl ?_
      refine wpg_v rfl (fun _ => rfl) rfl rfl ?_
      refine wpg_nil ?_
      repeat (first | refine wpg_next ?_ | refine wpg_blkout ?_)
      rfl
set_option maxHeartbeats 8000000 in
theorem RatProducts_l (a b : List UInt8) (hla : a.length ≤ 9223372036854775806) (hlb : b.length ≤ 9223372036854775806) : PureOK Tryz.prog hints 6 [.v .s a, .v .s b] (fun V => V = .v .b true) := by
  refine pure_rule (fn := Tryz.f6) (code := bodyOf Tryz.f6) tys_ok (by kernel_rfl) rfl Tryz.func6 (by kernel_rfl) (Nat.le_of_ble_eq_true (by kernel_rfl)) ?_
  have cE := RatErrors2_t a b hla hlb
  refine ratFact_t.mono ?_
  rintro _ rfl
  refine And.intro (fun h => nomatch h) (fun _ => ?_)
  by_cases hE : twoQ a b = 0
  · obtain ⟨r1, r2⟩ := twoQ_zero hE
    obtain ⟨p, rfl, hp⟩ := ratErr_zero r1
    obtain ⟨q, rfl, hq⟩ := ratErr_zero r2
    have x1 := QMul_ok p q hp hq
    have x2 := QDiv_ok p q hp hq
    rw [hE] at cE
    have hqz := ratT_is_zero q
    have hdv : divR2 p q = match decide (q = 0) with | true => ([], 10) | false => ratR (p / q) := rfl
    obtain ⟨⟨X, e⟩, hX⟩ : ∃ x, ratR (p * q) = x := ⟨_, rfl⟩
    obtain ⟨⟨Y, f⟩, hY⟩ : ∃ x, divR2 p q = x := ⟨_, rfl⟩
    rw [hX] at x1
    rw [hY] at x2 hdv
    refine x1.mono ?_
    rintro _ rfl
    refine x2.mono ?_
    rintro _ rfl
    refine And.intro (show 0 + 2 ≤ 2 by decide) ?_
    refine cE.mono ?_
    rintro _ rfl
    refine And.intro (fun h => by cases h) (fun _ => ?_)
    refine And.intro (show 0 + 2 ≤ 2 by decide) ?_
    refine (long2_t 100 (ratT p) (ratT q)).mono ?_
    rintro _ rfl
    cases hlo : longB 100 [ratT p, ratT q] with
    | true =>
      refine And.intro (fun _ => ?_) (fun h => nomatch h)
      rfl
    | false =>
      obtain ⟨l1, l2⟩ := longB_two hlo
      have dp := dz_text (p := p) (k := 100) (by omega) (by decide)
      have dq := dz_text (p := q) (k := 100) (by omega) (by decide)
      have da := dz_mul dp dq
      rw [ratR_dz (by decide) da] at hX
      cases hX
      have y1 := RatMul_t p q (by decide) dp dq
      obtain ⟨X, eX⟩ : ∃ x, ratT (p * q) = x := ⟨_, rfl⟩
      rw [eX] at y1 ⊢
      have bX := bne_self X
      refine And.intro (fun h => nomatch h) (fun _ => ?_)
      repeat (first | refine wpg_skipc ?_ | refine wpg_next ?_ | refine wpg_blkout ?_)
      first | refine wpg_seq (wpg_region (id := 10) rfl ?_) | refine wpg_seq (wpg_seq (wpg_region (id := 10) rfl ?_)) | refine wpg_region (id := 10) rfl ?_ | refine wpg_seq (wpg_block rfl (wpg_seq (wpg_region (id := 10) rfl ?_))) | refine wpg_block rfl (wpg_seq (wpg_region (id := 10) rfl ?_))
      refine wpg_v rfl (fun _ => rfl) rfl rfl ?_
      refine wpg_v rfl (fun _ => rfl) rfl rfl ?_
      refine wpg_v rfl (fun _ => rfl) rfl rfl ?_
      refine wpg_vg rfl rfl rfl rfl (fun _ => rfl) rfl rfl ?_
      refine wpg_vg rfl rfl rfl rfl (fun _ => rfl) rfl rfl ?_
      refine wpg_vg rfl rfl rfl rfl (fun _ => rfl) rfl rfl ?_
      refine wpg_run rfl rfl rfl rfl ((y1).mono ?_)
      rintro _ rfl
      refine wpg_put rfl rfl ?_
      refine wpg_vg rfl rfl rfl rfl (fun _ => rfl) rfl rfl ?_
      refine wpg_pf rfl rfl rfl rfl rfl rfl rfl ?_
      refine wpg_nil ?_
      repeat (first | refine wpg_next ?_ | refine wpg_blkout ?_)
      refine And.intro (fun h => by first | (cases h; done) | exact (nf h bX).elim) (fun _ => ?_)
      cases h0 : decide (q = 0) with
      | true =>
        rw [h0] at hdv hqz
        cases hdv
        refine And.intro (fun _ => ?_) (fun h => by first | (cases h; done) | exact (nf hqz h).elim)
        repeat (first | refine wpg_skipc ?_ | refine wpg_next ?_ | refine wpg_blkout ?_)
        first | refine wpg_seq (wpg_region (id := 13) rfl ?_) | refine wpg_seq (wpg_seq (wpg_region (id := 13) rfl ?_)) | refine wpg_region (id := 13) rfl ?_ | refine wpg_seq (wpg_block rfl (wpg_seq (wpg_region (id := 13) rfl ?_))) | refine wpg_block rfl (wpg_seq (wpg_region (id := 13) rfl ?_))
        refine wpg_v rfl (fun _ => rfl) rfl rfl ?_
        refine wpg_v rfl (fun _ => rfl) rfl rfl ?_
        refine wpg_v rfl (fun _ => rfl) rfl rfl ?_
        refine wpg_vg rfl rfl rfl rfl (fun _ => rfl) rfl rfl ?_
        refine wpg_vg rfl rfl rfl rfl (fun _ => rfl) rfl rfl ?_
        refine wpg_pt rfl rfl rfl rfl rfl rfl rfl ?_
        refine wpg_v rfl (fun _ => rfl) rfl rfl ?_
        refine wpg_nil ?_
        repeat (first | refine wpg_next ?_ | refine wpg_blkout ?_)
        rfl
      | false =>
        rw [h0] at hdv hqz
        have hq0 := of_decide_eq_false h0
        have dd := dz_div dp dq hq0
        simp only at hdv
        rw [ratR_dz (by decide) dd] at hdv
        cases hdv
        have y2 := RatDiv_t p q (by decide) dp dq hq0
        obtain ⟨Y, eY⟩ : ∃ x, ratT (p / q) = x := ⟨_, rfl⟩
        rw [eY] at y2 ⊢
        have bY := beq_self Y
        refine And.intro (fun h => by first | (cases h; done) | exact (nf h hqz).elim) (fun _ => ?_)
        repeat (first | refine wpg_skipc ?_ | refine wpg_next ?_ | refine wpg_blkout ?_)
        first | refine wpg_seq (wpg_region (id := 14) rfl ?_) | refine wpg_seq (wpg_seq (wpg_region (id := 14) rfl ?_)) | refine wpg_region (id := 14) rfl ?_ | refine wpg_seq (wpg_block rfl (wpg_seq (wpg_region (id := 14) rfl ?_))) | refine wpg_block rfl (wpg_seq (wpg_region (id := 14) rfl ?_))
        refine wpg_v rfl (fun _ => rfl) rfl rfl ?_
        refine wpg_v rfl (fun _ => rfl) rfl rfl ?_
        refine wpg_v rfl (fun _ => rfl) rfl rfl ?_
        refine wpg_vg rfl rfl rfl rfl (fun _ => rfl) rfl rfl ?_
        refine wpg_vg rfl rfl rfl rfl (fun _ => rfl) rfl rfl ?_
        refine wpg_vg rfl rfl rfl rfl (fun _ => rfl) rfl rfl ?_
        refine wpg_run rfl rfl rfl rfl ((y2).mono ?_)
        rintro _ rfl
        refine wpg_put rfl rfl ?_
        refine wpg_vg rfl rfl rfl rfl (fun _ => rfl) rfl rfl ?_
        refine wpg_pt rfl rfl rfl rfl rfl rfl rfl ?_
        refine wpg_v rfl (fun _ => rfl) rfl rfl ?_
        refine wpg_nil ?_
        repeat (first | refine wpg_next ?_ | refine wpg_blkout ?_)
        show SV.v .b (Y == Y) = _
        rw [bY]
  · have x1 := QMul_err a b hla hlb hE
    have x2 := QDiv_err a b hla hlb hE
    obtain ⟨E, eE⟩ : ∃ x, twoQ a b = x := ⟨_, rfl⟩
    rw [eE] at x1 x2 cE hE
    have hEE := decide_eq_true (rfl : E = E)
    have hEn : (!decide (E = 0)) = true := by rw [decide_eq_false hE]; rfl
    refine x1.mono ?_
    rintro _ rfl
    refine x2.mono ?_
    rintro _ rfl
    refine And.intro (show 0 + 2 ≤ 2 by decide) ?_
    refine cE.mono ?_
    rintro _ rfl
    refine And.intro (fun _ => ?_) (fun h => by first | (cases h; done) | exact (nf hEn h).elim)
    repeat (first | refine wpg_skipc ?_ | refine wpg_next ?_ | refine wpg_blkout ?_)
    first | refine wpg_seq (wpg_region (id := 7) rfl ?_) | refine wpg_seq (wpg_seq (wpg_region (id := 7) rfl ?_)) | refine wpg_region (id := 7) rfl ?_ | refine wpg_seq (wpg_block rfl (wpg_seq (wpg_region (id := 7) rfl ?_))) | refine wpg_block rfl (wpg_seq (wpg_region (id := 7) rfl ?_))
    refine wpg_v rfl (fun _ => rfl) rfl rfl ?_
    refine wpg_v rfl (fun _ => rfl) rfl rfl ?_
    refine wpg_v rfl (fun _ => rfl) rfl rfl ?_
    refine wpg_v rfl (fun _ => rfl) rfl rfl ?_
    refine wpg_vg rfl rfl rfl hEE (fun _ => rfl) rfl rfl ?_
    refine wpg_vg rfl rfl rfl hEE (fun _ => rfl) rfl rfl ?_
    refine wpg_vg rfl rfl rfl hEE (fun _ => rfl) rfl rfl ?_
    refine wpg_pt rfl rfl rfl hEE rfl rfl rfl ?_
    refine wpg_v rfl (fun _ => rfl) rfl rfl ?_
    refine wpg_vg rfl rfl rfl hEE (fun _ => rfl) rfl rfl ?_
    refine wpg_vg rfl rfl rfl hEE (fun _ => rfl) rfl rfl ?_
    refine wpg_pt rfl rfl rfl hEE rfl rfl rfl ?_
    refine wpg_v rfl (fun _ => rfl) rfl rfl ?_
    refine wpg_vg rfl rfl rfl rfl (fun _ => rfl) rfl rfl ?_
    refine wpg_vg rfl rfl rfl rfl (fun _ => rfl) rfl rfl ?_
    refine wpg_pt rfl rfl rfl rfl rfl rfl rfl ?_
    refine wpg_v rfl (fun _ => rfl) rfl rfl ?_
    refine wpg_nil ?_
    repeat (first | refine wpg_next ?_ | refine wpg_blkout ?_)
    rfl
set_option maxHeartbeats 8000000 in
theorem RatCompares_l (a b : List UInt8) (hla : a.length ≤ 9223372036854775806) (hlb : b.length ≤ 9223372036854775806) : PureOK Tryz.prog hints 7 [.v .s a, .v .s b] (fun V => V = .v .b true) := by
  refine pure_rule (fn := Tryz.f7) (code := bodyOf Tryz.f7) tys_ok (by kernel_rfl) rfl Tryz.func7 (by kernel_rfl) (Nat.le_of_ble_eq_true (by kernel_rfl)) ?_
  have cE := RatErrors2_t a b hla hlb
  have cA := RatError_t a hla
  refine ratFact_t.mono ?_
  rintro _ rfl
  refine And.intro (fun h => nomatch h) (fun _ => ?_)
  by_cases hE : twoQ a b = 0
  · obtain ⟨r1, r2⟩ := twoQ_zero hE
    obtain ⟨p, rfl, hp⟩ := ratErr_zero r1
    obtain ⟨q, rfl, hq⟩ := ratErr_zero r2
    have x1 := Compare_ok p q hp hq
    have x2 := QSign_ok p hp
    have y2 := RatSign_t p (by decide) (fit_dz hp)
    rw [hE] at cE
    rw [r1] at cA
    obtain ⟨S, eS⟩ : ∃ x, p.num.sign = x := ⟨_, rfl⟩
    rw [eS] at x2 y2
    have hSn : (!decide (S = S)) = false := by rw [decide_eq_true rfl]; rfl
    have y1 : longB 100 [ratT p, ratT q] = false → PureOK Tryz.prog hints 31 [.v .s (ratT p), .v .s (ratT q)] (fun V => V = .v (.i .i64) (cmpQ p q)) := fun hlo => by
      obtain ⟨l1, l2⟩ := longB_two hlo
      exact RatCmp_t p q (k := 100) (by decide) (dz_text (by omega) (by decide)) (dz_text (by omega) (by decide))
    obtain ⟨C, eC⟩ : ∃ x, cmpQ p q = x := ⟨_, rfl⟩
    rw [eC] at x1 y1
    have hC := decide_eq_true (rfl : C = C)
    refine x1.mono ?_
    rintro _ rfl
    refine x2.mono ?_
    rintro _ rfl
    repeat (first | refine wpg_skipc ?_ | refine wpg_next ?_ | refine wpg_blkout ?_)
    first | refine wpg_seq (wpg_region (id := 5) rfl ?_) | refine wpg_seq (wpg_seq (wpg_region (id := 5) rfl ?_)) | refine wpg_region (id := 5) rfl ?_ | refine wpg_seq (wpg_block rfl (wpg_seq (wpg_region (id := 5) rfl ?_))) | refine wpg_block rfl (wpg_seq (wpg_region (id := 5) rfl ?_))
    refine wpg_v rfl (fun _ => rfl) rfl rfl ?_
    refine wpg_v rfl (fun _ => rfl) rfl rfl ?_
    refine wpg_op rfl ((cA).mono ?_)
    rintro _ rfl
    refine wpg_put rfl rfl ?_
    refine wpg_v rfl (fun _ => rfl) rfl rfl ?_
    refine wpg_v rfl (fun _ => rfl) rfl rfl ?_
    refine wpg_vg rfl rfl rfl rfl (fun _ => rfl) rfl rfl ?_
    refine wpg_vg rfl rfl rfl rfl (fun _ => rfl) rfl rfl ?_
    refine wpg_vg rfl rfl rfl rfl (fun _ => rfl) rfl rfl ?_
    refine wpg_vg rfl rfl rfl rfl (fun _ => rfl) rfl rfl ?_
    refine wpg_vg rfl rfl rfl rfl (fun _ => rfl) rfl rfl ?_
    refine wpg_run rfl rfl rfl rfl ((y2).mono ?_)
    rintro _ rfl
    refine wpg_put rfl rfl ?_
    refine wpg_vg rfl rfl rfl rfl (fun _ => rfl) rfl rfl ?_
    refine wpg_ptg rfl rfl rfl rfl rfl rfl rfl rfl rfl rfl ?_
    refine wpg_pf rfl rfl rfl rfl rfl rfl rfl ?_
    refine wpg_v rfl (fun _ => rfl) rfl rfl ?_
    refine wpg_vg rfl rfl rfl hSn (fun _ => rfl) rfl rfl ?_
    refine wpg_vg rfl rfl rfl hSn (fun _ => rfl) rfl rfl ?_
    refine wpg_vg rfl rfl rfl hSn (fun _ => rfl) rfl rfl ?_
    refine wpg_skip rfl rfl rfl rfl rfl rfl ?_
    refine wpg_skip rfl rfl rfl rfl rfl rfl ?_
    refine wpg_pfg rfl rfl rfl hSn rfl rfl rfl rfl rfl rfl ?_
    refine wpg_pf rfl rfl rfl hSn rfl rfl rfl ?_
    refine wpg_nil ?_
    repeat (first | refine wpg_next ?_ | refine wpg_blkout ?_)
    refine And.intro (fun h => by first | (cases h; done) | exact (nf h hSn).elim) (fun _ => ?_)
    refine And.intro (show 0 + 2 ≤ 2 by decide) ?_
    refine cE.mono ?_
    rintro _ rfl
    refine And.intro (fun h => by cases h) (fun _ => ?_)
    have hLo := long2_t 100 (ratT p) (ratT q)
    cases hlo : longB 100 [ratT p, ratT q] with
    | true =>
      rw [hlo] at hLo
      repeat (first | refine wpg_skipc ?_ | refine wpg_next ?_ | refine wpg_blkout ?_)
      first | refine wpg_seq (wpg_region (id := 10) rfl ?_) | refine wpg_seq (wpg_seq (wpg_region (id := 10) rfl ?_)) | refine wpg_region (id := 10) rfl ?_ | refine wpg_seq (wpg_block rfl (wpg_seq (wpg_region (id := 10) rfl ?_))) | refine wpg_block rfl (wpg_seq (wpg_region (id := 10) rfl ?_))
      refine wpg_v rfl (fun _ => rfl) rfl rfl ?_
      refine wpg_v rfl (fun _ => rfl) rfl rfl ?_
      refine wpg_m rfl (fun _ => rfl) rfl rfl ?_
      refine wpg_op rfl (And.intro (show 0 + 2 ≤ 2 by decide) ((hLo).mono ?_))
      rintro _ rfl
      refine wpg_put rfl rfl ?_
      refine wpg_v rfl (fun _ => rfl) rfl rfl ?_
      refine wpg_skip rfl rfl rfl rfl rfl rfl ?_
      refine wpg_skip rfl rfl rfl rfl rfl rfl ?_
      refine wpg_skip rfl rfl rfl rfl rfl rfl ?_
      refine wpg_skipT rfl rfl rfl rfl rfl ?_
      refine wpg_skipT rfl rfl rfl rfl rfl ?_
      refine wpg_skipT rfl rfl rfl rfl rfl ?_
      refine wpg_skipT rfl rfl rfl rfl rfl ?_
      refine wpg_skipT rfl rfl rfl rfl rfl ?_
      refine wpg_skip rfl rfl rfl rfl rfl rfl ?_
      refine wpg_pt rfl rfl rfl rfl rfl rfl rfl ?_
      refine wpg_v rfl (fun _ => rfl) rfl rfl ?_
      refine wpg_nil ?_
      repeat (first | refine wpg_next ?_ | refine wpg_blkout ?_)
      rfl
    | false =>
      rw [hlo] at hLo
      have y1 := y1 hlo
      repeat (first | refine wpg_skipc ?_ | refine wpg_next ?_ | refine wpg_blkout ?_)
      first | refine wpg_seq (wpg_region (id := 10) rfl ?_) | refine wpg_seq (wpg_seq (wpg_region (id := 10) rfl ?_)) | refine wpg_region (id := 10) rfl ?_ | refine wpg_seq (wpg_block rfl (wpg_seq (wpg_region (id := 10) rfl ?_))) | refine wpg_block rfl (wpg_seq (wpg_region (id := 10) rfl ?_))
      refine wpg_v rfl (fun _ => rfl) rfl rfl ?_
      refine wpg_v rfl (fun _ => rfl) rfl rfl ?_
      refine wpg_m rfl (fun _ => rfl) rfl rfl ?_
      refine wpg_op rfl (And.intro (show 0 + 2 ≤ 2 by decide) ((hLo).mono ?_))
      rintro _ rfl
      refine wpg_put rfl rfl ?_
      refine wpg_v rfl (fun _ => rfl) rfl rfl ?_
      refine wpg_vg rfl rfl rfl rfl (fun _ => rfl) rfl rfl ?_
      refine wpg_vg rfl rfl rfl rfl (fun _ => rfl) rfl rfl ?_
      refine wpg_vg rfl rfl rfl rfl (fun _ => rfl) rfl rfl ?_
      refine wpg_vg rfl rfl rfl rfl (fun _ => rfl) rfl rfl ?_
      refine wpg_vg rfl rfl rfl rfl (fun _ => rfl) rfl rfl ?_
      refine wpg_vg rfl rfl rfl rfl (fun _ => rfl) rfl rfl ?_
      refine wpg_run rfl rfl rfl rfl ((y1).mono ?_)
      rintro _ rfl
      refine wpg_put rfl rfl ?_
      refine wpg_vg rfl rfl rfl rfl (fun _ => rfl) rfl rfl ?_
      refine wpg_ptg rfl rfl rfl rfl rfl rfl rfl rfl rfl rfl ?_
      refine wpg_pf rfl rfl rfl rfl rfl rfl rfl ?_
      refine wpg_v rfl (fun _ => rfl) rfl rfl ?_
      refine wpg_nil ?_
      repeat (first | refine wpg_next ?_ | refine wpg_blkout ?_)
      show SV.v .b (decide (C = C)) = _
      rw [hC]
  · have x1 := Compare_err a b hla hlb hE
    obtain ⟨E, eE⟩ : ∃ x, twoQ a b = x := ⟨_, rfl⟩
    rw [eE] at x1 cE hE
    have hEE := decide_eq_true (rfl : E = E)
    have hEn : (!decide (E = 0)) = true := by rw [decide_eq_false hE]; rfl
    refine x1.mono ?_
    rintro _ rfl
    by_cases r1 : ratErr a = 0
    · obtain ⟨p, rfl, hp⟩ := ratErr_zero r1
      have x2 := QSign_ok p hp
      have y2 := RatSign_t p (by decide) (fit_dz hp)
      rw [r1] at cA
      obtain ⟨S, eS⟩ : ∃ x, p.num.sign = x := ⟨_, rfl⟩
      rw [eS] at x2 y2
      have hSn : (!decide (S = S)) = false := by rw [decide_eq_true rfl]; rfl
      refine x2.mono ?_
      rintro _ rfl
      repeat (first | refine wpg_skipc ?_ | refine wpg_next ?_ | refine wpg_blkout ?_)
      first | refine wpg_seq (wpg_region (id := 5) rfl ?_) | refine wpg_seq (wpg_seq (wpg_region (id := 5) rfl ?_)) | refine wpg_region (id := 5) rfl ?_ | refine wpg_seq (wpg_block rfl (wpg_seq (wpg_region (id := 5) rfl ?_))) | refine wpg_block rfl (wpg_seq (wpg_region (id := 5) rfl ?_))
      refine wpg_v rfl (fun _ => rfl) rfl rfl ?_
      refine wpg_v rfl (fun _ => rfl) rfl rfl ?_
      refine wpg_op rfl ((cA).mono ?_)
      rintro _ rfl
      refine wpg_put rfl rfl ?_
      refine wpg_v rfl (fun _ => rfl) rfl rfl ?_
      refine wpg_v rfl (fun _ => rfl) rfl rfl ?_
      refine wpg_vg rfl rfl rfl rfl (fun _ => rfl) rfl rfl ?_
      refine wpg_vg rfl rfl rfl rfl (fun _ => rfl) rfl rfl ?_
      refine wpg_vg rfl rfl rfl rfl (fun _ => rfl) rfl rfl ?_
      refine wpg_vg rfl rfl rfl rfl (fun _ => rfl) rfl rfl ?_
      refine wpg_vg rfl rfl rfl rfl (fun _ => rfl) rfl rfl ?_
      refine wpg_run rfl rfl rfl rfl ((y2).mono ?_)
      rintro _ rfl
      refine wpg_put rfl rfl ?_
      refine wpg_vg rfl rfl rfl rfl (fun _ => rfl) rfl rfl ?_
      refine wpg_ptg rfl rfl rfl rfl rfl rfl rfl rfl rfl rfl ?_
      refine wpg_pf rfl rfl rfl rfl rfl rfl rfl ?_
      refine wpg_v rfl (fun _ => rfl) rfl rfl ?_
      refine wpg_vg rfl rfl rfl hSn (fun _ => rfl) rfl rfl ?_
      refine wpg_vg rfl rfl rfl hSn (fun _ => rfl) rfl rfl ?_
      refine wpg_vg rfl rfl rfl hSn (fun _ => rfl) rfl rfl ?_
      refine wpg_skip rfl rfl rfl rfl rfl rfl ?_
      refine wpg_skip rfl rfl rfl rfl rfl rfl ?_
      refine wpg_pfg rfl rfl rfl hSn rfl rfl rfl rfl rfl rfl ?_
      refine wpg_pf rfl rfl rfl hSn rfl rfl rfl ?_
      refine wpg_nil ?_
      repeat (first | refine wpg_next ?_ | refine wpg_blkout ?_)
      refine And.intro (fun h => by first | (cases h; done) | exact (nf h hSn).elim) (fun _ => ?_)
      refine And.intro (show 0 + 2 ≤ 2 by decide) ?_
      refine cE.mono ?_
      rintro _ rfl
      refine And.intro (fun _ => ?_) (fun h => by first | (cases h; done) | exact (nf hEn h).elim)
      repeat (first | refine wpg_skipc ?_ | refine wpg_next ?_ | refine wpg_blkout ?_)
      first | refine wpg_seq (wpg_region (id := 9) rfl ?_) | refine wpg_seq (wpg_seq (wpg_region (id := 9) rfl ?_)) | refine wpg_region (id := 9) rfl ?_ | refine wpg_seq (wpg_block rfl (wpg_seq (wpg_region (id := 9) rfl ?_))) | refine wpg_block rfl (wpg_seq (wpg_region (id := 9) rfl ?_))
      refine wpg_v rfl (fun _ => rfl) rfl rfl ?_
      refine wpg_v rfl (fun _ => rfl) rfl rfl ?_
      refine wpg_v rfl (fun _ => rfl) rfl rfl ?_
      refine wpg_v rfl (fun _ => rfl) rfl rfl ?_
      refine wpg_vg rfl rfl rfl hEE (fun _ => rfl) rfl rfl ?_
      refine wpg_vg rfl rfl rfl hEE (fun _ => rfl) rfl rfl ?_
      refine wpg_pt rfl rfl rfl hEE rfl rfl rfl ?_
      refine wpg_v rfl (fun _ => rfl) rfl rfl ?_
      refine wpg_nil ?_
      repeat (first | refine wpg_next ?_ | refine wpg_blkout ?_)
      rfl
    · have x2 := QSign_err a hla r1
      obtain ⟨A, eA⟩ : ∃ x, ratErr a = x := ⟨_, rfl⟩
      rw [eA] at x2 cA r1
      have hAn : (!decide (A = A)) = false := by rw [decide_eq_true rfl]; rfl
      have hA0 := decide_eq_false r1
      have hA1 : (!decide (A = 0)) = true := by rw [hA0]; rfl
      refine x2.mono ?_
      rintro _ rfl
      repeat (first | refine wpg_skipc ?_ | refine wpg_next ?_ | refine wpg_blkout ?_)
      first | refine wpg_seq (wpg_region (id := 5) rfl ?_) | refine wpg_seq (wpg_seq (wpg_region (id := 5) rfl ?_)) | refine wpg_region (id := 5) rfl ?_ | refine wpg_seq (wpg_block rfl (wpg_seq (wpg_region (id := 5) rfl ?_))) | refine wpg_block rfl (wpg_seq (wpg_region (id := 5) rfl ?_))
      refine wpg_v rfl (fun _ => rfl) rfl rfl ?_
      refine wpg_v rfl (fun _ => rfl) rfl rfl ?_
      refine wpg_op rfl ((cA).mono ?_)
      rintro _ rfl
      refine wpg_put rfl rfl ?_
      refine wpg_v rfl (fun _ => rfl) rfl rfl ?_
      refine wpg_v rfl (fun _ => rfl) rfl rfl ?_
      refine wpg_vg rfl rfl rfl hAn (fun _ => rfl) rfl rfl ?_
      refine wpg_vg rfl rfl rfl hAn (fun _ => rfl) rfl rfl ?_
      refine wpg_vg rfl rfl rfl hAn (fun _ => rfl) rfl rfl ?_
      refine wpg_skip rfl rfl rfl hA0 rfl rfl ?_
      refine wpg_skip rfl rfl rfl hA0 rfl rfl ?_
      refine wpg_skip rfl rfl rfl hA0 rfl rfl ?_
      refine wpg_skip rfl rfl rfl hA0 rfl rfl ?_
      refine wpg_pfg rfl rfl rfl hAn rfl rfl hA0 rfl rfl rfl ?_
      refine wpg_pf rfl rfl rfl hAn rfl rfl rfl ?_
      refine wpg_v rfl (fun _ => rfl) rfl rfl ?_
      refine wpg_vg rfl rfl rfl rfl (fun _ => rfl) rfl rfl ?_
      refine wpg_vg rfl rfl rfl rfl (fun _ => rfl) rfl rfl ?_
      refine wpg_vg rfl rfl rfl rfl (fun _ => rfl) rfl rfl ?_
      refine wpg_vg rfl rfl rfl hA1 (fun _ => rfl) rfl rfl ?_
      refine wpg_vg rfl rfl rfl hA1 (fun _ => rfl) rfl rfl ?_
      refine wpg_ptg rfl rfl rfl rfl rfl rfl hA1 rfl rfl rfl ?_
      refine wpg_pf rfl rfl rfl rfl rfl rfl rfl ?_
      refine wpg_nil ?_
      repeat (first | refine wpg_next ?_ | refine wpg_blkout ?_)
      refine And.intro (fun h => by cases h) (fun _ => ?_)
      refine And.intro (show 0 + 2 ≤ 2 by decide) ?_
      refine cE.mono ?_
      rintro _ rfl
      refine And.intro (fun _ => ?_) (fun h => by first | (cases h; done) | exact (nf hEn h).elim)
      repeat (first | refine wpg_skipc ?_ | refine wpg_next ?_ | refine wpg_blkout ?_)
      first | refine wpg_seq (wpg_region (id := 9) rfl ?_) | refine wpg_seq (wpg_seq (wpg_region (id := 9) rfl ?_)) | refine wpg_region (id := 9) rfl ?_ | refine wpg_seq (wpg_block rfl (wpg_seq (wpg_region (id := 9) rfl ?_))) | refine wpg_block rfl (wpg_seq (wpg_region (id := 9) rfl ?_))
      refine wpg_v rfl (fun _ => rfl) rfl rfl ?_
      refine wpg_v rfl (fun _ => rfl) rfl rfl ?_
      refine wpg_v rfl (fun _ => rfl) rfl rfl ?_
      refine wpg_v rfl (fun _ => rfl) rfl rfl ?_
      refine wpg_vg rfl rfl rfl hEE (fun _ => rfl) rfl rfl ?_
      refine wpg_vg rfl rfl rfl hEE (fun _ => rfl) rfl rfl ?_
      refine wpg_pt rfl rfl rfl hEE rfl rfl rfl ?_
      refine wpg_v rfl (fun _ => rfl) rfl rfl ?_
      refine wpg_nil ?_
      repeat (first | refine wpg_next ?_ | refine wpg_blkout ?_)
      rfl
end Go.Proofs.YtlnimeapichgmaaGreatDoor

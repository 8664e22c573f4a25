/-
  The laws RatIntegers, RatLists.
-/
import Derived.Test.YtlnimeapichgmaaGreatDoorQE
import Derived.Test.YtlnimeapichgmaaGreatDoorQC
import Derived.Test.YtlnimeapichgmaaGreatDoorQD
set_option linter.constructorNameAsVariable false
set_option linter.unusedSimpArgs false
set_option linter.unusedVariables false
namespace Go.Proofs.YtlnimeapichgmaaGreatDoor
open Go.Am Go.Tx Dv Go.Lib
set_option maxRecDepth 100000
theorem long1_t (n : Int) (a : List UInt8) : PureOK Tryz.prog hints 21 [.v (.i .i64) n, .v (.l .s) (sub [a] 0 1)] (fun V => V = .v .b (longB n [a])) := long_t n [a] (show 1 ≤ 1000 by decide)
theorem maxT : ratT ((9223372036854775807 : Int) : Rat) = [57, 50, 50, 51, 51, 55, 50, 48, 51, 54, 56, 53, 52, 55, 55, 53, 56, 48, 55] := by
  rw [ratT_int]
  have hc : Cn [57, 50, 50, 51, 51, 55, 50, 48, 51, 54, 56, 53, 52, 55, 55, 53, 56, 48, 55] := cnB_iff.1 (by decide +kernel)
  have hd := hc.eq
  have hv : dec [57, 50, 50, 51, 51, 55, 50, 48, 51, 54, 56, 53, 52, 55, 55, 53, 56, 48, 55] = 9223372036854775807 := by decide +kernel
  rw [hv] at hd
  exact hd
theorem minT : ratT ((-9223372036854775808 : Int) : Rat) = [45, 57, 50, 50, 51, 51, 55, 50, 48, 51, 54, 56, 53, 52, 55, 55, 53, 56, 48, 56] := by
  rw [ratT_int]
  have hc : Cn [57, 50, 50, 51, 51, 55, 50, 48, 51, 54, 56, 53, 52, 55, 55, 53, 56, 48, 56] := cnB_iff.1 (by decide +kernel)
  have hd := hc.eq
  have hv : dec [57, 50, 50, 51, 51, 55, 50, 48, 51, 54, 56, 53, 52, 55, 55, 53, 56, 48, 56] = 9223372036854775808 := by decide +kernel
  rw [hv] at hd
  show mns true (decDigits 9223372036854775808) = _
  rw [hd]
  rfl
theorem cmpQ_int {p : Rat} (h : p.den = 1) (n : Int) : cmpQ p (n : Rat) = (p.num - n).sign := by
  rw [cmpQ, Rat.num_intCast, Rat.den_intCast, h]
  simp
theorem den_one {p : Rat} (h : p.den = 1) : ((p.num : Int) : Rat) = p := by
  refine Rat.ext ?_ ?_
  · rw [Rat.num_intCast]
  · rw [Rat.den_intCast, h]
theorem smallV_in {v : Int} (h : -9223372036854775808 ≤ v ∧ v < 9223372036854775808) : smallV v = (v, true) := by
  rw [smallV, decide_eq_true h.1, decide_eq_true h.2]
  rfl
theorem smallV_out {v : Int} (h : ¬ (-9223372036854775808 ≤ v ∧ v < 9223372036854775808)) : smallV v = (0, false) := by
  have hb : (decide (-9223372036854775808 ≤ v) && decide (v < 9223372036854775808)) = false := by
    rw [Bool.and_eq_false_iff, decide_eq_false_iff_not, decide_eq_false_iff_not]
    omega
  rw [smallV, hb]
theorem intR_in {p : Rat} (hd : p.den = 1) (h : -9223372036854775808 ≤ p.num ∧ p.num < 9223372036854775808) : intR p = (p.num, 0) := by
  simp only [intR, decide_eq_true hd, smallV_in h]
theorem intR_out {p : Rat} (hd : p.den = 1) (h : ¬ (-9223372036854775808 ≤ p.num ∧ p.num < 9223372036854775808)) : intR p = (0, 4) := by
  simp only [intR, decide_eq_true hd, smallV_out h]
theorem intR_form {p : Rat} (hd : p.den ≠ 1) : intR p = (0, 3) := by
  simp only [intR, decide_eq_false hd]
theorem intR_long {p : Rat} (h : (100 : Int) < ((ratT p).length : Int)) : intR p = (0, 3) ∨ intR p = (0, 4) := by
  by_cases hd : p.den = 1
  · right
    refine intR_out hd fun hr => ?_
    have h1 : dl p.num.natAbs ≤ 19 := dl_le (by decide) (by omega)
    have h2 : (ratT p).length ≤ dl p.num.natAbs + 1 := by
      rw [ratT, fracT, decide_eq_true hd, List.append_nil]
      cases decide (p.num < 0) <;> simp [mns, dl]
    omega
  · exact .inl (intR_form hd)
theorem floor_den {p : Rat} : (ratT ((p.num / (p.den : Int) : Int) : Rat) == ratT p) = decide (p.den = 1) := by
  rw [Bool.eq_iff_iff, beq_iff_eq, decide_eq_true_eq]
  constructor
  · intro h
    have := ratT_inj h
    rw [← this, Rat.den_intCast]
  · intro h
    have e : p.num / (p.den : Int) = p.num := by rw [h, Int.natCast_one, Int.ediv_one]
    rw [e, den_one h]
set_option maxHeartbeats 8000000 in
theorem RatIntegers_l (a : List UInt8) (hla : a.length ≤ 9223372036854775806) : PureOK Tryz.prog hints 8 [.v .s a] (fun V => V = .v .b true) := by
  refine pure_rule (fn := Tryz.f8) (code := bodyOf Tryz.f8) tys_ok (by kernel_rfl) rfl Tryz.func8 (by kernel_rfl) (Nat.le_of_ble_eq_true (by kernel_rfl)) ?_
  have cA := RatError_t a hla
  refine ratFact_t.mono ?_
  rintro _ rfl
  refine And.intro (fun h => nomatch h) (fun _ => ?_)
  by_cases r1 : ratErr a = 0
  · obtain ⟨p, rfl, hp⟩ := ratErr_zero r1
    rw [r1] at cA
    have hI := Integer_ok p hp
    have hLo := long1_t 100 (ratT p)
    obtain ⟨⟨n, e⟩, hR⟩ : ∃ x, intR p = x := ⟨_, rfl⟩
    rw [hR] at hI
    refine hI.mono ?_
    rintro _ rfl
    refine cA.mono ?_
    rintro _ rfl
    cases hlo : longB 100 [ratT p] with
    | true =>
      rw [hlo] at hLo
      have hlen : (100 : Int) < ((ratT p).length : Int) := by
        simp only [longB] at hlo
        cases h1 : decide ((100 : Int) < ((ratT p).length : Int)) with
        | true => exact of_decide_eq_true h1
        | false => rw [h1] at hlo; cases hlo
      repeat (first | refine wpg_skipc ?_ | refine wpg_next ?_ | refine wpg_blkout ?_)
      first | refine wpg_seq (wpg_region (id := 5) rfl ?_) | refine wpg_seq (wpg_seq (wpg_region (id := 5) rfl ?_)) | refine wpg_region (id := 5) rfl ?_ | refine wpg_seq (wpg_block rfl (wpg_seq (wpg_region (id := 5) rfl ?_))) | refine wpg_block rfl (wpg_seq (wpg_region (id := 5) rfl ?_))
      refine wpg_v rfl (fun _ => rfl) rfl rfl ?_
      refine wpg_v rfl (fun _ => rfl) rfl rfl ?_
      refine wpg_v rfl (fun _ => rfl) rfl rfl ?_
      refine wpg_vg rfl rfl rfl rfl (fun _ => rfl) rfl rfl ?_
      refine wpg_mg rfl rfl rfl rfl (fun _ => rfl) rfl rfl ?_
      refine wpg_run rfl rfl rfl rfl (And.intro (show 0 + 1 ≤ 1 by decide) ((hLo).mono ?_))
      rintro _ rfl
      refine wpg_put rfl rfl ?_
      refine wpg_vg rfl rfl rfl rfl (fun _ => rfl) rfl rfl ?_
      refine wpg_pt rfl rfl rfl rfl rfl rfl rfl ?_
      refine wpg_nil ?_
      repeat (first | refine wpg_next ?_ | refine wpg_blkout ?_)
      refine And.intro (fun h => by cases h) (fun _ => ?_)
      refine And.intro (fun _ => ?_) (fun h => by cases h)
      rcases intR_long hlen with h3 | h4
      · rw [hR] at h3
        cases h3
        repeat (first | refine wpg_skipc ?_ | refine wpg_next ?_ | refine wpg_blkout ?_)
        first | refine wpg_seq (wpg_region (id := 11) rfl ?_) | refine wpg_seq (wpg_seq (wpg_region (id := 11) rfl ?_)) | refine wpg_region (id := 11) rfl ?_ | refine wpg_seq (wpg_block rfl (wpg_seq (wpg_region (id := 11) rfl ?_))) | refine wpg_block rfl (wpg_seq (wpg_region (id := 11) rfl ?_))
        refine wpg_v rfl (fun _ => rfl) rfl rfl ?_
        refine wpg_v rfl (fun _ => rfl) rfl rfl ?_
        refine wpg_v rfl (fun _ => rfl) rfl rfl ?_
        refine wpg_skip rfl rfl rfl rfl rfl rfl ?_
        refine wpg_skip rfl rfl rfl rfl rfl rfl ?_
        refine wpg_pt rfl rfl rfl rfl rfl rfl rfl ?_
        refine wpg_v rfl (fun _ => rfl) rfl rfl ?_
        refine wpg_nil ?_
        repeat (first | refine wpg_next ?_ | refine wpg_blkout ?_)
        rfl
      · rw [hR] at h4
        cases h4
        repeat (first | refine wpg_skipc ?_ | refine wpg_next ?_ | refine wpg_blkout ?_)
        first | refine wpg_seq (wpg_region (id := 11) rfl ?_) | refine wpg_seq (wpg_seq (wpg_region (id := 11) rfl ?_)) | refine wpg_region (id := 11) rfl ?_ | refine wpg_seq (wpg_block rfl (wpg_seq (wpg_region (id := 11) rfl ?_))) | refine wpg_block rfl (wpg_seq (wpg_region (id := 11) rfl ?_))
        refine wpg_v rfl (fun _ => rfl) rfl rfl ?_
        refine wpg_v rfl (fun _ => rfl) rfl rfl ?_
        refine wpg_v rfl (fun _ => rfl) rfl rfl ?_
        refine wpg_vg rfl rfl rfl rfl (fun _ => rfl) rfl rfl ?_
        refine wpg_vg rfl rfl rfl rfl (fun _ => rfl) rfl rfl ?_
        refine wpg_pf rfl rfl rfl rfl rfl rfl rfl ?_
        refine wpg_v rfl (fun _ => rfl) rfl rfl ?_
        refine wpg_nil ?_
        repeat (first | refine wpg_next ?_ | refine wpg_blkout ?_)
        rfl
    | false =>
      rw [hlo] at hLo
      have hlen := longB_one hlo
      have dp := dz_text (p := p) (k := 100) (by omega) (by decide)
      have hF := RatFloor_t p (by decide) dp
      have hfl := floor_den (p := p)
      obtain ⟨F, eF⟩ : ∃ x, ratT ((p.num / (p.den : Int) : Int) : Rat) = x := ⟨_, rfl⟩
      rw [eF] at hF hfl
      repeat (first | refine wpg_skipc ?_ | refine wpg_next ?_ | refine wpg_blkout ?_)
      first | refine wpg_seq (wpg_region (id := 5) rfl ?_) | refine wpg_seq (wpg_seq (wpg_region (id := 5) rfl ?_)) | refine wpg_region (id := 5) rfl ?_ | refine wpg_seq (wpg_block rfl (wpg_seq (wpg_region (id := 5) rfl ?_))) | refine wpg_block rfl (wpg_seq (wpg_region (id := 5) rfl ?_))
      refine wpg_v rfl (fun _ => rfl) rfl rfl ?_
      refine wpg_v rfl (fun _ => rfl) rfl rfl ?_
      refine wpg_v rfl (fun _ => rfl) rfl rfl ?_
      refine wpg_vg rfl rfl rfl rfl (fun _ => rfl) rfl rfl ?_
      refine wpg_mg rfl rfl rfl rfl (fun _ => rfl) rfl rfl ?_
      refine wpg_run rfl rfl rfl rfl (And.intro (show 0 + 1 ≤ 1 by decide) ((hLo).mono ?_))
      rintro _ rfl
      refine wpg_put rfl rfl ?_
      refine wpg_vg rfl rfl rfl rfl (fun _ => rfl) rfl rfl ?_
      refine wpg_pt rfl rfl rfl rfl rfl rfl rfl ?_
      refine wpg_nil ?_
      repeat (first | refine wpg_next ?_ | refine wpg_blkout ?_)
      refine And.intro (fun _ => ?_) (fun h => by cases h)
      refine hF.mono ?_
      rintro _ rfl
      cases hd : decide (p.den = 1) with
      | false =>
        rw [hd] at hfl
        have hn : (!(F == ratT p)) = true := by rw [hfl]; rfl
        have h3 := intR_form (of_decide_eq_false hd)
        rw [hR] at h3
        cases h3
        refine And.intro (fun _ => ?_) (fun h => by first | (cases h; done) | exact (nf hn h).elim)
        refine And.intro (fun _ => ?_) (fun h => by cases h)
        repeat (first | refine wpg_skipc ?_ | refine wpg_next ?_ | refine wpg_blkout ?_)
        first | refine wpg_seq (wpg_region (id := 13) rfl ?_) | refine wpg_seq (wpg_seq (wpg_region (id := 13) rfl ?_)) | refine wpg_region (id := 13) rfl ?_ | refine wpg_seq (wpg_block rfl (wpg_seq (wpg_region (id := 13) rfl ?_))) | refine wpg_block rfl (wpg_seq (wpg_region (id := 13) rfl ?_))
        refine wpg_v rfl (fun _ => rfl) rfl rfl ?_
        refine wpg_v rfl (fun _ => rfl) rfl rfl ?_
        refine wpg_v rfl (fun _ => rfl) rfl rfl ?_
        refine wpg_v rfl (fun _ => rfl) rfl rfl ?_
        refine wpg_vg rfl rfl rfl rfl (fun _ => rfl) rfl rfl ?_
        refine wpg_vg rfl rfl rfl rfl (fun _ => rfl) rfl rfl ?_
        refine wpg_pt rfl rfl rfl rfl rfl rfl rfl ?_
        refine wpg_v rfl (fun _ => rfl) rfl rfl ?_
        refine wpg_nil ?_
        repeat (first | refine wpg_next ?_ | refine wpg_blkout ?_)
        rfl
      | true =>
        rw [hd] at hfl
        have hd1 := of_decide_eq_true hd
        have hn : (!(F == ratT p)) = false := by rw [hfl]; rfl
        have dM : dz ((9223372036854775807 : Int) : Rat) 100 := ⟨by rw [Rat.num_intCast]; exact dl_le (by decide) (by decide), by rw [Rat.den_intCast]; exact Nat.le_trans (Nat.le_of_eq dl_one) (by decide)⟩
        have dm : dz ((-9223372036854775808 : Int) : Rat) 100 := ⟨by rw [Rat.num_intCast]; exact dl_le (by decide) (by decide), by rw [Rat.den_intCast]; exact Nat.le_trans (Nat.le_of_eq dl_one) (by decide)⟩
        have k1 := RatCmp_t p _ (by decide) dp dM
        have k2 := RatCmp_t p _ (by decide) dp dm
        rw [maxT, cmpQ_int hd1] at k1
        rw [minT, cmpQ_int hd1] at k2
        have h1 : (0 : Int) < (p.num - 9223372036854775807).sign ↔ 9223372036854775807 < p.num := by rw [Int.sign_pos_iff]; omega
        have h2 : (p.num - -9223372036854775808).sign < (0 : Int) ↔ p.num < -9223372036854775808 := by rw [Int.sign_neg_iff]; omega
        obtain ⟨M, eM⟩ : ∃ x, (p.num - 9223372036854775807).sign = x := ⟨_, rfl⟩
        obtain ⟨m, em⟩ : ∃ x, (p.num - -9223372036854775808).sign = x := ⟨_, rfl⟩
        rw [eM] at k1 h1
        rw [em] at k2 h2
        refine And.intro (fun h => by first | (cases h; done) | exact (nf h hn).elim) (fun _ => ?_)
        cases b1 : decide ((0 : Int) < M) with
        | true =>
          have h4 := intR_out hd1 (by have := h1.1 (of_decide_eq_true b1); omega)
          rw [hR] at h4
          cases h4
          repeat (first | refine wpg_skipc ?_ | refine wpg_next ?_ | refine wpg_blkout ?_)
          first | refine wpg_seq (wpg_region (id := 8) rfl ?_) | refine wpg_seq (wpg_seq (wpg_region (id := 8) rfl ?_)) | refine wpg_region (id := 8) rfl ?_ | refine wpg_seq (wpg_block rfl (wpg_seq (wpg_region (id := 8) rfl ?_))) | refine wpg_block rfl (wpg_seq (wpg_region (id := 8) rfl ?_))
          refine wpg_v rfl (fun _ => rfl) rfl rfl ?_
          refine wpg_op rfl ((k1).mono ?_)
          rintro _ rfl
          refine wpg_put rfl rfl ?_
          refine wpg_v rfl (fun _ => rfl) rfl rfl ?_
          refine wpg_v rfl (fun _ => rfl) rfl rfl ?_
          refine wpg_skip rfl rfl rfl b1 rfl rfl ?_
          refine wpg_skip rfl rfl rfl b1 rfl rfl ?_
          refine wpg_skip rfl rfl rfl b1 rfl rfl ?_
          refine wpg_pt rfl rfl rfl b1 rfl rfl rfl ?_
          refine wpg_v rfl (fun _ => rfl) rfl rfl ?_
          refine wpg_nil ?_
          repeat (first | refine wpg_next ?_ | refine wpg_blkout ?_)
          refine And.intro (fun _ => ?_) (fun h => by first | (cases h; done) | exact (nf b1 h).elim)
          refine And.intro (fun _ => ?_) (fun h => by cases h)
          repeat (first | refine wpg_skipc ?_ | refine wpg_next ?_ | refine wpg_blkout ?_)
          first | refine wpg_seq (wpg_region (id := 13) rfl ?_) | refine wpg_seq (wpg_seq (wpg_region (id := 13) rfl ?_)) | refine wpg_region (id := 13) rfl ?_ | refine wpg_seq (wpg_block rfl (wpg_seq (wpg_region (id := 13) rfl ?_))) | refine wpg_block rfl (wpg_seq (wpg_region (id := 13) rfl ?_))
          refine wpg_v rfl (fun _ => rfl) rfl rfl ?_
          refine wpg_v rfl (fun _ => rfl) rfl rfl ?_
          refine wpg_v rfl (fun _ => rfl) rfl rfl ?_
          refine wpg_v rfl (fun _ => rfl) rfl rfl ?_
          refine wpg_vg rfl rfl rfl rfl (fun _ => rfl) rfl rfl ?_
          refine wpg_vg rfl rfl rfl rfl (fun _ => rfl) rfl rfl ?_
          refine wpg_pt rfl rfl rfl rfl rfl rfl rfl ?_
          refine wpg_v rfl (fun _ => rfl) rfl rfl ?_
          refine wpg_nil ?_
          repeat (first | refine wpg_next ?_ | refine wpg_blkout ?_)
          rfl
        | false =>
          cases b2 : decide (m < (0 : Int)) with
          | true =>
            have h4 := intR_out hd1 (by have := h2.1 (of_decide_eq_true b2); omega)
            rw [hR] at h4
            cases h4
            repeat (first | refine wpg_skipc ?_ | refine wpg_next ?_ | refine wpg_blkout ?_)
            first | refine wpg_seq (wpg_region (id := 8) rfl ?_) | refine wpg_seq (wpg_seq (wpg_region (id := 8) rfl ?_)) | refine wpg_region (id := 8) rfl ?_ | refine wpg_seq (wpg_block rfl (wpg_seq (wpg_region (id := 8) rfl ?_))) | refine wpg_block rfl (wpg_seq (wpg_region (id := 8) rfl ?_))
            refine wpg_v rfl (fun _ => rfl) rfl rfl ?_
            refine wpg_op rfl ((k1).mono ?_)
            rintro _ rfl
            refine wpg_put rfl rfl ?_
            refine wpg_v rfl (fun _ => rfl) rfl rfl ?_
            refine wpg_v rfl (fun _ => rfl) rfl rfl ?_
            refine wpg_vg rfl rfl rfl b1 (fun _ => rfl) rfl rfl ?_
            refine wpg_run rfl rfl rfl b1 ((k2).mono ?_)
            rintro _ rfl
            refine wpg_put rfl rfl ?_
            refine wpg_vg rfl rfl rfl b1 (fun _ => rfl) rfl rfl ?_
            refine wpg_pf rfl rfl rfl b1 rfl rfl rfl ?_
            refine wpg_v rfl (fun _ => rfl) rfl rfl ?_
            refine wpg_nil ?_
            repeat (first | refine wpg_next ?_ | refine wpg_blkout ?_)
            refine And.intro (fun _ => ?_) (fun h => by first | (cases h; done) | exact (nf b2 h).elim)
            refine And.intro (fun _ => ?_) (fun h => by cases h)
            repeat (first | refine wpg_skipc ?_ | refine wpg_next ?_ | refine wpg_blkout ?_)
            first | refine wpg_seq (wpg_region (id := 13) rfl ?_) | refine wpg_seq (wpg_seq (wpg_region (id := 13) rfl ?_)) | refine wpg_region (id := 13) rfl ?_ | refine wpg_seq (wpg_block rfl (wpg_seq (wpg_region (id := 13) rfl ?_))) | refine wpg_block rfl (wpg_seq (wpg_region (id := 13) rfl ?_))
            refine wpg_v rfl (fun _ => rfl) rfl rfl ?_
            refine wpg_v rfl (fun _ => rfl) rfl rfl ?_
            refine wpg_v rfl (fun _ => rfl) rfl rfl ?_
            refine wpg_v rfl (fun _ => rfl) rfl rfl ?_
            refine wpg_vg rfl rfl rfl rfl (fun _ => rfl) rfl rfl ?_
            refine wpg_vg rfl rfl rfl rfl (fun _ => rfl) rfl rfl ?_
            refine wpg_pt rfl rfl rfl rfl rfl rfl rfl ?_
            refine wpg_v rfl (fun _ => rfl) rfl rfl ?_
            refine wpg_nil ?_
            repeat (first | refine wpg_next ?_ | refine wpg_blkout ?_)
            rfl
          | false =>
            have g1 : ¬ 9223372036854775807 < p.num := fun h => of_decide_eq_false b1 (h1.2 h)
            have g2 : ¬ p.num < -9223372036854775808 := fun h => of_decide_eq_false b2 (h2.2 h)
            have h4 := intR_in hd1 ⟨by omega, by omega⟩
            rw [hR] at h4
            have hRI := RatInt_t p.num (by omega) (by omega)
            rw [den_one hd1] at hRI
            cases h4
            have bS := beq_self (ratT p)
            repeat (first | refine wpg_skipc ?_ | refine wpg_next ?_ | refine wpg_blkout ?_)
            first | refine wpg_seq (wpg_region (id := 8) rfl ?_) | refine wpg_seq (wpg_seq (wpg_region (id := 8) rfl ?_)) | refine wpg_region (id := 8) rfl ?_ | refine wpg_seq (wpg_block rfl (wpg_seq (wpg_region (id := 8) rfl ?_))) | refine wpg_block rfl (wpg_seq (wpg_region (id := 8) rfl ?_))
            refine wpg_v rfl (fun _ => rfl) rfl rfl ?_
            refine wpg_op rfl ((k1).mono ?_)
            rintro _ rfl
            refine wpg_put rfl rfl ?_
            refine wpg_v rfl (fun _ => rfl) rfl rfl ?_
            refine wpg_v rfl (fun _ => rfl) rfl rfl ?_
            refine wpg_vg rfl rfl rfl b1 (fun _ => rfl) rfl rfl ?_
            refine wpg_run rfl rfl rfl b1 ((k2).mono ?_)
            rintro _ rfl
            refine wpg_put rfl rfl ?_
            refine wpg_vg rfl rfl rfl b1 (fun _ => rfl) rfl rfl ?_
            refine wpg_pf rfl rfl rfl b1 rfl rfl rfl ?_
            refine wpg_v rfl (fun _ => rfl) rfl rfl ?_
            refine wpg_nil ?_
            repeat (first | refine wpg_next ?_ | refine wpg_blkout ?_)
            refine And.intro (fun h => by first | (cases h; done) | exact (nf h b2).elim) (fun _ => ?_)
            refine And.intro (fun h => by cases h) (fun _ => ?_)
            repeat (first | refine wpg_skipc ?_ | refine wpg_next ?_ | refine wpg_blkout ?_)
            first | refine wpg_seq (wpg_region (id := 14) rfl ?_) | refine wpg_seq (wpg_seq (wpg_region (id := 14) rfl ?_)) | refine wpg_region (id := 14) rfl ?_ | refine wpg_seq (wpg_block rfl (wpg_seq (wpg_region (id := 14) rfl ?_))) | refine wpg_block rfl (wpg_seq (wpg_region (id := 14) rfl ?_))
            refine wpg_v rfl (fun _ => rfl) rfl rfl ?_
            refine wpg_v rfl (fun _ => rfl) rfl rfl ?_
            refine wpg_v rfl (fun _ => rfl) rfl rfl ?_
            refine wpg_vg rfl rfl rfl rfl (fun _ => rfl) rfl rfl ?_
            refine wpg_run rfl rfl rfl rfl ((hRI).mono ?_)
            rintro _ rfl
            refine wpg_put rfl rfl ?_
            refine wpg_vg rfl rfl rfl rfl (fun _ => rfl) rfl rfl ?_
            refine wpg_vg rfl rfl rfl rfl (fun _ => rfl) rfl rfl ?_
            refine wpg_pt rfl rfl rfl rfl rfl rfl rfl ?_
            refine wpg_v rfl (fun _ => rfl) rfl rfl ?_
            refine wpg_nil ?_
            repeat (first | refine wpg_next ?_ | refine wpg_blkout ?_)
            show SV.v .b (ratT p == ratT p) = _
            rw [bS]
  · have hI := Integer_err a hla r1
    obtain ⟨A, eA⟩ : ∃ x, ratErr a = x := ⟨_, rfl⟩
    rw [eA] at hI cA r1
    have hA0 := decide_eq_false r1
    have hAn : (!decide (A = 0)) = true := by rw [hA0]; rfl
    have hAA := decide_eq_true (rfl : A = A)
    refine hI.mono ?_
    rintro _ rfl
    refine cA.mono ?_
    rintro _ rfl
    repeat (first | refine wpg_skipc ?_ | refine wpg_next ?_ | refine wpg_blkout ?_)
    first | refine wpg_seq (wpg_region (id := 5) rfl ?_) | refine wpg_seq (wpg_seq (wpg_region (id := 5) rfl ?_)) | refine wpg_region (id := 5) rfl ?_ | refine wpg_seq (wpg_block rfl (wpg_seq (wpg_region (id := 5) rfl ?_))) | refine wpg_block rfl (wpg_seq (wpg_region (id := 5) rfl ?_))
    refine wpg_v rfl (fun _ => rfl) rfl rfl ?_
    refine wpg_v rfl (fun _ => rfl) rfl rfl ?_
    refine wpg_v rfl (fun _ => rfl) rfl rfl ?_
    refine wpg_skip rfl rfl rfl hA0 rfl rfl ?_
    refine wpg_skip rfl rfl rfl hA0 rfl rfl ?_
    refine wpg_skip rfl rfl rfl hA0 rfl rfl ?_
    refine wpg_skip rfl rfl rfl hA0 rfl rfl ?_
    refine wpg_pf rfl rfl rfl hA0 rfl rfl rfl ?_
    refine wpg_nil ?_
    repeat (first | refine wpg_next ?_ | refine wpg_blkout ?_)
    refine And.intro (fun h => by cases h) (fun _ => ?_)
    refine And.intro (fun h => by first | (cases h; done) | exact (nf h hA0).elim) (fun _ => ?_)
    refine And.intro (fun _ => ?_) (fun h => by first | (cases h; done) | exact (nf hAn h).elim)
    repeat (first | refine wpg_skipc ?_ | refine wpg_next ?_ | refine wpg_blkout ?_)
    first | refine wpg_seq (wpg_region (id := 13) rfl ?_) | refine wpg_seq (wpg_seq (wpg_region (id := 13) rfl ?_)) | refine wpg_region (id := 13) rfl ?_ | refine wpg_seq (wpg_block rfl (wpg_seq (wpg_region (id := 13) rfl ?_))) | refine wpg_block rfl (wpg_seq (wpg_region (id := 13) rfl ?_))
    refine wpg_v rfl (fun _ => rfl) rfl rfl ?_
    refine wpg_v rfl (fun _ => rfl) rfl rfl ?_
    refine wpg_v rfl (fun _ => rfl) rfl rfl ?_
    refine wpg_v rfl (fun _ => rfl) rfl rfl ?_
    refine wpg_vg rfl rfl rfl hAA (fun _ => rfl) rfl rfl ?_
    refine wpg_vg rfl rfl rfl hAA (fun _ => rfl) rfl rfl ?_
    refine wpg_pt rfl rfl rfl hAA rfl rfl rfl ?_
    refine wpg_v rfl (fun _ => rfl) rfl rfl ?_
    refine wpg_nil ?_
    repeat (first | refine wpg_next ?_ | refine wpg_blkout ?_)
    rfl
theorem cloR_t (s : List UInt8) : PureOK Tryz.prog hints 37 [.v .s s] (fun V => V = .v .b (decide ((60 : Int) < (s.length : Int)))) := by
  refine pure_rule (fn := Tryz.f37) (code := bodyOf Tryz.f37) tys_ok (by kernel_rfl) rfl Tryz.func37 (by kernel_rfl) (Nat.le_of_ble_eq_true (by kernel_rfl)) ?_
  rfl
set_option maxHeartbeats 4000000 in
theorem indexR_t (l : List (List UInt8)) (hl : l.length ≤ 1000) : PureOK Tryz.prog hints 71 [.v (.l .s) l, .func 37 [] []] (fun V => ∃ k : Int, V = .v (.i .i64) k ∧ (longB 60 l = true → 0 ≤ k) ∧ (longB 60 l = false → k < 0)) := by
  refine pure_rule (fn := Tryz.f71) (code := bodyOf Tryz.f71) tys_ok (by kernel_rfl) rfl Tryz.func71 (by kernel_rfl) (Nat.le_of_ble_eq_true (by kernel_rfl)) ?_
  refine loop_wp tys_ok rfl (fun (i : Nat) => [(0, .v (.l .s) l), (1, .func 37 [] []), (7, .v (.i .i64) (l.length : Int)), (8, .v (.i .i64) (i : Int))]) (fun _ => [])
    (fun i => i ≤ l.length ∧ longB 60 (l.drop i) = longB 60 l) (fun i => l.length - i) ?_ 0 ?_ ?_
  · rintro i ⟨hi, he⟩
    refine And.intro (fun h => ?_) (fun h => ?_)
    · have hlt : i < l.length := by have h' : (i : Int) < (l.length : Int) := of_decide_eq_true h; omega
      obtain ⟨s, hs⟩ : ∃ s, l[i] = s := ⟨_, rfl⟩
      have gs : l[(i : Int).toNat]? = some s := by rw [Int.toNat_natCast, List.getElem?_eq_getElem hlt, hs]
      rw [List.drop_eq_getElem_cons hlt, hs, longB] at he
      refine ⟨s, Int.natCast_nonneg i, gs, ?_⟩
      refine (cloR_t s).mono ?_
      rintro _ rfl
      refine And.intro (fun h2 => ?_) (fun h2 => ?_)
      · have h2' : decide ((60 : Int) < (s.length : Int)) = true := h2
        rw [h2'] at he
        refine ⟨(i : Int), rfl, fun _ => Int.natCast_nonneg i, fun h3 => ?_⟩
        rw [← he] at h3
        cases h3
      · have h2' : decide ((60 : Int) < (s.length : Int)) = false := h2
        rw [h2'] at he
        have wi : IntKind.i64.wrap ((i : Int) + 1) = ((i + 1 : Nat) : Int) := wrap64 (by omega) (by omega)
        refine ⟨i + 1, ⟨hlt, he⟩, by show l.length - (i + 1) < l.length - i; omega, ?_⟩
        refine ent_of rfl rfl ?_ ?_
        · exact ⟨rfl, ⟨rfl, trivial, trivial⟩, rfl, wi.symm, trivial⟩
        · exact trivial
    · have hi2 : i = l.length := by have h' : ¬ (i : Int) < (l.length : Int) := of_decide_eq_false h; omega
      rw [List.drop_of_length_le (by omega)] at he
      refine ⟨-1, rfl, fun h3 => ?_, fun _ => by decide⟩
      rw [← he] at h3
      cases h3
  · exact ⟨Nat.zero_le _, rfl⟩
  · refine ent_of rfl rfl ?_ ?_
    · exact ⟨rfl, ⟨rfl, trivial, trivial⟩, rfl, rfl, trivial⟩
    · exact trivial
theorem containsR_t (l : List (List UInt8)) (hl : l.length ≤ 1000) : PureOK Tryz.prog hints 36 [.v (.l .s) l, .func 37 [] []] (fun V => V = .v .b (longB 60 l)) := by
  refine pure_rule (fn := Tryz.f36) (code := bodyOf Tryz.f36) tys_ok (by kernel_rfl) rfl Tryz.func36 (by kernel_rfl) (Nat.le_of_ble_eq_true (by kernel_rfl)) ?_
  refine (indexR_t l hl).mono ?_
  rintro _ ⟨k, rfl, h1, h2⟩
  refine congrArg (SV.v .b) ?_
  cases hb : longB 60 l with
  | true => exact decide_eq_true (h1 hb)
  | false => exact decide_eq_false (by have := h2 hb; omega)
theorem longB_all {n : Int} : ∀ {l : List (List UInt8)}, longB n l = false → ∀ a ∈ l, (a.length : Int) ≤ n
  | [], _, _, h => absurd h List.not_mem_nil
  | s :: r, h, a, ha => by
    rw [longB] at h
    cases h1 : decide (n < (s.length : Int)) with
    | true => rw [h1] at h; cases h
    | false =>
      rw [h1] at h
      rcases List.mem_cons.1 ha with rfl | ha
      · have := of_decide_eq_false h1; omega
      · exact longB_all h a ha
/-- The sum of numbers. -/
def sumL : List Rat → Rat
  | [] => 0
  | p :: ps => p + sumL ps
theorem sumR_fit : ∀ {ps : List Rat} {s : Rat} {k : Nat}, dz s k → (∀ p ∈ ps, dz p 60) → k + 61 * ps.length ≤ 2000 → sumR ps s = (ratT (s + sumL ps), 0)
  | [], s, k, _, _, _ => by rw [sumR, sumL, Rat.add_zero]
  | p :: ps, s, k, hs, hp, hk => by
    have h1 := dz_add hs (hp p List.mem_cons_self)
    simp only [List.length_cons] at hk
    have h2 : fitQ (s + p) = true := dz_fit (by omega) h1
    rw [sumR, h2]
    simp only
    rw [sumR_fit h1 (fun q hq => hp q (List.mem_cons_of_mem _ hq)) (by omega), sumL, Rat.add_assoc]
theorem least_uniq {ps : List Rat} {b c : Nat} (hb : LeastIn ps 0 ps.length b) (hc : LeastIn ps 0 ps.length c) : b = c := by
  have key : ∀ {b c : Nat}, LeastIn ps 0 ps.length b → LeastIn ps 0 ps.length c → ¬ b < c := by
    intro b c ⟨hb, h1⟩ ⟨hc, h2⟩ hlt
    have eb := List.getElem?_eq_getElem hb
    have ec := List.getElem?_eq_getElem hc
    have q1 := (h1 _ eb).1 c _ (Nat.zero_le _) hc ec
    have q2 := (h2 _ ec).2 b _ (Nat.zero_le _) hlt eb
    exact Rat.not_le.2 q2 q1
  have := key hb hc
  have := key hc hb
  omega
abbrev rlC (l : List (List UInt8)) (X : List UInt8) (e b f : Int) (t : Nat × Rat × Nat) : TM := [(0, .v (.l .s) l), (3, .v .s X), (4, .v (.i .i64) e), (5, .v (.i .i64) b), (6, .v (.i .i64) f), (8, .v .s (ratT t.2.1)), (9, .v (.i .i64) (t.2.2 : Int)), (10, .v (.i .i64) ((t.1 : Int) - 1))]
set_option maxHeartbeats 16000000 in
theorem RatLists_l (l : List (List UInt8)) (hs : ∀ a ∈ l, a.length ≤ 9223372036854775806) : PureOK Tryz.prog hints 9 [.v (.l .s) l] (fun V => V = .v .b true) := by
  refine pure_rule (fn := Tryz.f9) (code := bodyOf Tryz.f9) tys_ok (by kernel_rfl) rfl Tryz.func9 (by kernel_rfl) (Nat.le_of_ble_eq_true (by kernel_rfl)) ?_
  refine ratFact_t.mono ?_
  rintro _ rfl
  refine And.intro (fun h => nomatch h) (fun _ => ?_)
  by_cases hbig : 256 < l.length
  · refine (Sum_big l hbig).mono ?_
    rintro _ rfl
    refine (Least_big l hbig).mono ?_
    rintro _ rfl
    have hb : decide ((256 : Int) < (l.length : Int)) = true := decide_eq_true (by omega)
    refine And.intro (fun _ => ?_) (fun h => by first | (cases h; done) | exact (nf hb h).elim)
    repeat (first | refine wpg_skipc ?_ | refine wpg_next ?_ | refine wpg_blkout ?_)
    first | refine wpg_seq (wpg_region (id := 6) rfl ?_) | refine wpg_seq (wpg_seq (wpg_region (id := 6) rfl ?_)) | refine wpg_region (id := 6) rfl ?_ | refine wpg_seq (wpg_block rfl (wpg_seq (wpg_region (id := 6) rfl ?_))) | refine wpg_block rfl (wpg_seq (wpg_region (id := 6) rfl ?_))
    refine wpg_v rfl (fun _ => rfl) rfl rfl ?_
    refine wpg_v rfl (fun _ => rfl) rfl rfl ?_
    refine wpg_v rfl (fun _ => rfl) rfl rfl ?_
    refine wpg_vg rfl rfl rfl rfl (fun _ => rfl) rfl rfl ?_
    refine wpg_vg rfl rfl rfl rfl (fun _ => rfl) rfl rfl ?_
    refine wpg_pt rfl rfl rfl rfl rfl rfl rfl ?_
    refine wpg_v rfl (fun _ => rfl) rfl rfl ?_
    refine wpg_vg rfl rfl rfl rfl (fun _ => rfl) rfl rfl ?_
    refine wpg_vg rfl rfl rfl rfl (fun _ => rfl) rfl rfl ?_
    refine wpg_pt rfl rfl rfl rfl rfl rfl rfl ?_
    refine wpg_v rfl (fun _ => rfl) rfl rfl ?_
    refine wpg_vg rfl rfl rfl rfl (fun _ => rfl) rfl rfl ?_
    refine wpg_vg rfl rfl rfl rfl (fun _ => rfl) rfl rfl ?_
    refine wpg_pt rfl rfl rfl rfl rfl rfl rfl ?_
    refine wpg_v rfl (fun _ => rfl) rfl rfl ?_
    refine wpg_nil ?_
    repeat (first | refine wpg_next ?_ | refine wpg_blkout ?_)
    rfl
  have hb : decide ((256 : Int) < (l.length : Int)) = false := decide_eq_false (by omega)
  by_cases hnil : l = []
  · subst hnil
    have h1 := Sum_ok [] (by decide) (fun p hp => absurd hp List.not_mem_nil)
    have e1 : sumR [] 0 = ([48], 0) := by rw [sumR, ratT_zero]
    rw [e1] at h1
    refine h1.mono ?_
    rintro _ rfl
    refine Least_none.mono ?_
    rintro _ rfl
    refine And.intro (fun h => by cases h) (fun _ => ?_)
    refine And.intro (fun _ => ?_) (fun h => by cases h)
    repeat (first | refine wpg_skipc ?_ | refine wpg_next ?_ | refine wpg_blkout ?_)
    first | refine wpg_seq (wpg_region (id := 8) rfl ?_) | refine wpg_seq (wpg_seq (wpg_region (id := 8) rfl ?_)) | refine wpg_region (id := 8) rfl ?_ | refine wpg_seq (wpg_block rfl (wpg_seq (wpg_region (id := 8) rfl ?_))) | refine wpg_block rfl (wpg_seq (wpg_region (id := 8) rfl ?_))
    refine wpg_v rfl (fun _ => rfl) rfl rfl ?_
    refine wpg_v rfl (fun _ => rfl) rfl rfl ?_
    refine wpg_v rfl (fun _ => rfl) rfl rfl ?_
    refine wpg_vg rfl rfl rfl rfl (fun _ => rfl) rfl rfl ?_
    refine wpg_vg rfl rfl rfl rfl (fun _ => rfl) rfl rfl ?_
    refine wpg_pt rfl rfl rfl rfl rfl rfl rfl ?_
    refine wpg_v rfl (fun _ => rfl) rfl rfl ?_
    refine wpg_vg rfl rfl rfl rfl (fun _ => rfl) rfl rfl ?_
    refine wpg_vg rfl rfl rfl rfl (fun _ => rfl) rfl rfl ?_
    refine wpg_pt rfl rfl rfl rfl rfl rfl rfl ?_
    refine wpg_v rfl (fun _ => rfl) rfl rfl ?_
    refine wpg_vg rfl rfl rfl rfl (fun _ => rfl) rfl rfl ?_
    refine wpg_vg rfl rfl rfl rfl (fun _ => rfl) rfl rfl ?_
    refine wpg_pt rfl rfl rfl rfl rfl rfl rfl ?_
    refine wpg_v rfl (fun _ => rfl) rfl rfl ?_
    refine wpg_nil ?_
    repeat (first | refine wpg_next ?_ | refine wpg_blkout ?_)
    rfl
  have hl0 := List.length_pos_iff.2 hnil
  have hz0 : decide ((l.length : Int) = 0) = false := decide_eq_false (by omega)
  have cE := RatErrors_t l (by omega) hs
  by_cases hE : ratEs l = 0
  · rw [hE] at cE
    obtain ⟨ps, rfl, hf⟩ := all_rat (ratEs_zero hE)
    have hll : (ps.map ratT).length = ps.length := List.length_map _
    have hps : ps ≠ [] := fun e => hnil (by rw [e]; rfl)
    have h1 := Sum_ok ps (by omega) hf
    have h2 := Least_ok ps hps (by omega) hf
    have hg : ∀ i (h : i < ps.length), (ps.map ratT)[i]? = some (ratT ps[i]) := fun i h => by
      rw [List.getElem?_map, List.getElem?_eq_getElem h]
      rfl
    have hcon := containsR_t (ps.map ratT) (by omega)
    have hall : longB 60 (ps.map ratT) = false → ∀ p ∈ ps, dz p 60 := fun h p hp => by
      have := longB_all h (ratT p) (List.mem_map.2 ⟨p, hp, rfl⟩)
      exact dz_text (by omega) (by decide)
    obtain ⟨l, hl⟩ : ∃ l, ps.map ratT = l := ⟨_, rfl⟩
    rw [hl] at cE h1 h2 hg hll hcon hall hbig hb hl0 hz0 ⊢
    obtain ⟨⟨X, e⟩, hX⟩ : ∃ x, sumR ps 0 = x := ⟨_, rfl⟩
    rw [hX] at h1
    refine h1.mono ?_
    rintro _ rfl
    refine h2.mono ?_
    rintro _ ⟨b, rfl, hB⟩
    refine And.intro (fun h => by first | (cases h; done) | exact (nf h hb).elim) (fun _ => ?_)
    refine And.intro (fun h => by first | (cases h; done) | exact (nf h hz0).elim) (fun _ => ?_)
    refine cE.mono ?_
    rintro _ rfl
    refine And.intro (fun h => by cases h) (fun _ => ?_)
    cases h12 : decide ((12 : Int) < (l.length : Int)) with
    | true =>
      repeat (first | refine wpg_skipc ?_ | refine wpg_next ?_ | refine wpg_blkout ?_)
      first | refine wpg_seq (wpg_region (id := 12) rfl ?_) | refine wpg_seq (wpg_seq (wpg_region (id := 12) rfl ?_)) | refine wpg_region (id := 12) rfl ?_ | refine wpg_seq (wpg_block rfl (wpg_seq (wpg_region (id := 12) rfl ?_))) | refine wpg_block rfl (wpg_seq (wpg_region (id := 12) rfl ?_))
      refine wpg_v rfl (fun _ => rfl) rfl rfl ?_
      refine wpg_v rfl (fun _ => rfl) rfl rfl ?_
      refine wpg_v rfl (fun _ => rfl) rfl rfl ?_
      refine wpg_v rfl (fun _ => rfl) rfl rfl ?_
      refine wpg_skip rfl rfl rfl h12 rfl rfl ?_
      refine wpg_skip rfl rfl rfl h12 rfl rfl ?_
      refine wpg_pt rfl rfl rfl h12 rfl rfl rfl ?_
      refine wpg_nil ?_
      repeat (first | refine wpg_next ?_ | refine wpg_blkout ?_)
      refine And.intro (fun _ => ?_) (fun h => by first | (cases h; done) | exact (nf h12 h).elim)
      rfl
    | false =>
    have hl12 : ps.length ≤ 12 := by have := of_decide_eq_false h12; omega
    cases h60 : longB 60 l with
    | true =>
      rw [h60] at hcon
      repeat (first | refine wpg_skipc ?_ | refine wpg_next ?_ | refine wpg_blkout ?_)
      first | refine wpg_seq (wpg_region (id := 12) rfl ?_) | refine wpg_seq (wpg_seq (wpg_region (id := 12) rfl ?_)) | refine wpg_region (id := 12) rfl ?_ | refine wpg_seq (wpg_block rfl (wpg_seq (wpg_region (id := 12) rfl ?_))) | refine wpg_block rfl (wpg_seq (wpg_region (id := 12) rfl ?_))
      refine wpg_v rfl (fun _ => rfl) rfl rfl ?_
      refine wpg_v rfl (fun _ => rfl) rfl rfl ?_
      refine wpg_v rfl (fun _ => rfl) rfl rfl ?_
      refine wpg_v rfl (fun _ => rfl) rfl rfl ?_
      refine wpg_vg rfl rfl rfl h12 (fun _ => rfl) rfl rfl ?_
      refine wpg_run rfl rfl rfl h12 ((hcon).mono ?_)
      rintro _ rfl
      refine wpg_put rfl rfl ?_
      refine wpg_pf rfl rfl rfl h12 rfl rfl rfl ?_
      refine wpg_nil ?_
      repeat (first | refine wpg_next ?_ | refine wpg_blkout ?_)
      refine And.intro (fun _ => ?_) (fun h => by cases h)
      rfl
    | false =>
      rw [h60] at hcon
      have hd := hall h60
      have d0 : dz (0 : Rat) 1 := ⟨by rw [Rat.zero_num]; exact Nat.le_of_eq (by rw [dl, show (0 : Int).natAbs = 0 from rfl, decDigits_one (by decide)]; rfl), by rw [Rat.zero_den]; exact Nat.le_of_eq dl_one⟩
      rw [sumR_fit d0 hd (by omega), Rat.zero_add] at hX
      cases hX
      have w1 : IntKind.i64.wrap ((l.length : Int) - 1) = (ps.length : Int) - 1 := by rw [wrap64 (by omega) (by omega)]; omega
      repeat (first | refine wpg_skipc ?_ | refine wpg_next ?_ | refine wpg_blkout ?_)
      first | refine wpg_seq (wpg_region (id := 12) rfl ?_) | refine wpg_seq (wpg_seq (wpg_region (id := 12) rfl ?_)) | refine wpg_region (id := 12) rfl ?_ | refine wpg_seq (wpg_block rfl (wpg_seq (wpg_region (id := 12) rfl ?_))) | refine wpg_block rfl (wpg_seq (wpg_region (id := 12) rfl ?_))
      refine wpg_v rfl (fun _ => rfl) rfl rfl ?_
      refine wpg_v rfl (fun _ => rfl) rfl rfl ?_
      refine wpg_v rfl (fun _ => rfl) rfl rfl ?_
      refine wpg_v rfl (fun _ => rfl) rfl rfl ?_
      refine wpg_vg rfl rfl rfl h12 (fun _ => rfl) rfl rfl ?_
      refine wpg_run rfl rfl rfl h12 ((hcon).mono ?_)
      rintro _ rfl
      refine wpg_put rfl rfl ?_
      refine wpg_pf rfl rfl rfl h12 rfl rfl rfl ?_
      refine wpg_nil ?_
      repeat (first | refine wpg_next ?_ | refine wpg_blkout ?_)
      refine And.intro (fun h => by cases h) (fun _ => ?_)
      refine loop_wp tys_ok rfl (rlC l (ratT (sumL ps)) 0 b 0) (fun _ => [])
        (fun t => t.1 ≤ ps.length ∧ t.2.1 = sumL (ps.drop t.1) ∧ dz t.2.1 (61 * (ps.length - t.1) + 1) ∧ LeastIn ps t.1 ps.length t.2.2) (fun t => t.1) ?_ (ps.length, 0, ps.length - 1) ?_ ?_
      · rintro ⟨k, S, c⟩ ⟨hk, hS, hdS, hc, hle⟩
        simp only at hk hS hdS hc hle
        refine And.intro (fun h => ?_) (fun h => ?_)
        · have hk1 : 0 ≤ (k : Int) - 1 := of_decide_eq_true h
          obtain ⟨i, rfl⟩ : ∃ i, k = i + 1 := ⟨k - 1, by omega⟩
          have hlt : i < ps.length := by omega
          have ki : ((i + 1 : Nat) : Int) - 1 = (i : Int) := by omega
          have gx : l[(((i + 1 : Nat) : Int) - 1).toNat]? = some (ratT ps[i]) := by rw [ki, Int.toNat_natCast]; exact hg i hlt
          have gy : l[(c : Int).toNat]? = some (ratT ps[c]) := by rw [Int.toNat_natCast]; exact hg c hc
          have dx := hd ps[i] (List.getElem_mem hlt)
          have dy := hd ps[c] (List.getElem_mem hc)
          have ex := List.getElem?_eq_getElem hlt
          have ey := List.getElem?_eq_getElem hc
          have hS2 : sumL (ps.drop i) = ps[i] + S := by rw [List.drop_eq_getElem_cons hlt, sumL, hS]
          obtain ⟨x, hx⟩ : ∃ x, ps[i] = x := ⟨_, rfl⟩
          obtain ⟨y, hy⟩ : ∃ y, ps[c] = y := ⟨_, rfl⟩
          rw [hx] at gx dx ex hS2
          rw [hy] at gy dy ey
          obtain ⟨hle1, hle2⟩ := hle y ey
          have dnew := dz_add dx hdS
          have hAdd := RatAdd_t x S (k := 61 * 13) (by decide) (dz_mono (by omega) dx) (dz_mono (by omega) hdS)
          have hCmp := RatCmp_t x y (by decide) dx dy
          have wk : IntKind.i64.wrap (((i + 1 : Nat) : Int) - 1 - 1) = (i : Int) - 1 := by rw [wrap64 (by omega) (by omega)]; omega
          refine ⟨ratT x, hk1, gx, ?_⟩
          refine hAdd.mono ?_
          rintro _ rfl
          refine ⟨ratT x, hk1, gx, ?_⟩
          refine ⟨ratT y, Int.natCast_nonneg c, gy, ?_⟩
          refine hCmp.mono ?_
          rintro _ rfl
          refine And.intro (fun h2 => ?_) (fun h2 => ?_)
          · have h' : x ≤ y := (cmpQ_le x y).1 (of_decide_eq_true h2)
            refine ⟨(i, x + S, i), ⟨by show i ≤ ps.length; omega, hS2.symm, dz_mono (by show 60 + (61 * (ps.length - (i + 1)) + 1) + 1 ≤ 61 * (ps.length - i) + 1; omega) dnew, hlt, fun z hz => ?_⟩, Nat.lt_succ_self i, ?_⟩
            · have hzx : z = x := by rw [ex] at hz; exact (Option.some.inj hz).symm
              subst hzx
              refine ⟨fun j w hj hj2 hw => ?_, fun j w hj hj2 _ => absurd hj2 (Nat.not_lt.2 hj)⟩
              rcases (show i + 1 ≤ j ∨ j = i by simp only at hj; omega) with hj | hj
              · exact Rat.le_trans h' (hle1 j w hj hj2 hw)
              · subst hj
                rw [ex] at hw
                rw [Option.some.inj hw]
                exact Rat.le_refl
            · refine ent_of rfl rfl ?_ ?_
              · exact ⟨rfl, rfl, rfl, rfl, rfl, rfl, ki.symm, wk.symm, trivial⟩
              · exact trivial
          · have h' : ¬ x ≤ y := fun hc => of_decide_eq_false h2 ((cmpQ_le x y).2 hc)
            have h' := Rat.not_le.1 h'
            refine ⟨(i, x + S, c), ⟨by show i ≤ ps.length; omega, hS2.symm, dz_mono (by show 60 + (61 * (ps.length - (i + 1)) + 1) + 1 ≤ 61 * (ps.length - i) + 1; omega) dnew, hc, fun z hz => ?_⟩, Nat.lt_succ_self i, ?_⟩
            · have hzy : z = y := by rw [ey] at hz; exact (Option.some.inj hz).symm
              subst hzy
              refine ⟨fun j w hj hj2 hw => ?_, fun j w hj hj2 hw => ?_⟩
              · rcases (show i + 1 ≤ j ∨ j = i by simp only at hj; omega) with hj | hj
                · exact hle1 j w hj hj2 hw
                · subst hj
                  rw [ex] at hw
                  rw [← Option.some.inj hw]
                  exact Rat.le_of_lt h'
              · rcases (show i + 1 ≤ j ∨ j = i by simp only at hj; omega) with hj | hj
                · exact hle2 j w hj hj2 hw
                · subst hj
                  rw [ex] at hw
                  rw [← Option.some.inj hw]
                  exact h'
            · refine ent_of rfl rfl ?_ ?_
              · exact ⟨rfl, rfl, rfl, rfl, rfl, rfl, rfl, wk.symm, trivial⟩
              · exact trivial
        · have hk0 : k = 0 := by
            have : ¬ 0 ≤ (k : Int) - 1 := of_decide_eq_false h
            omega
          subst hk0
          have hSS : S = sumL ps := hS
          have hbc := least_uniq hB ⟨hc, hle⟩
          subst hSS
          subst hbc
          have bX := beq_self (ratT (sumL ps))
          have bb := decide_eq_true (rfl : (b : Int) = (b : Int))
          repeat (first | refine wpg_skipc ?_ | refine wpg_next ?_ | refine wpg_blkout ?_)
          first | refine wpg_seq (wpg_region (id := 21) rfl ?_) | refine wpg_seq (wpg_seq (wpg_region (id := 21) rfl ?_)) | refine wpg_region (id := 21) rfl ?_ | refine wpg_seq (wpg_block rfl (wpg_seq (wpg_region (id := 21) rfl ?_))) | refine wpg_block rfl (wpg_seq (wpg_region (id := 21) rfl ?_))
          refine wpg_v rfl (fun _ => rfl) rfl rfl ?_
          refine wpg_v rfl (fun _ => rfl) rfl rfl ?_
          refine wpg_v rfl (fun _ => rfl) rfl rfl ?_
          refine wpg_vg rfl rfl rfl rfl (fun _ => rfl) rfl rfl ?_
          refine wpg_vg rfl rfl rfl rfl (fun _ => rfl) rfl rfl ?_
          refine wpg_vg rfl rfl rfl rfl (fun _ => rfl) rfl rfl ?_
          refine wpg_pt rfl rfl rfl rfl rfl rfl rfl ?_
          refine wpg_v rfl (fun _ => rfl) rfl rfl ?_
          refine wpg_vg rfl rfl rfl bX (fun _ => rfl) rfl rfl ?_
          refine wpg_vg rfl rfl rfl bX (fun _ => rfl) rfl rfl ?_
          refine wpg_pt rfl rfl rfl bX rfl rfl rfl ?_
          refine wpg_v rfl (fun _ => rfl) rfl rfl ?_
          refine wpg_vg rfl rfl rfl rfl (fun _ => rfl) rfl rfl ?_
          refine wpg_vg rfl rfl rfl rfl (fun _ => rfl) rfl rfl ?_
          refine wpg_vg rfl rfl rfl rfl (fun _ => rfl) rfl rfl ?_
          refine wpg_pt rfl rfl rfl rfl rfl rfl rfl ?_
          refine wpg_v rfl (fun _ => rfl) rfl rfl ?_
          refine wpg_nil ?_
          repeat (first | refine wpg_next ?_ | refine wpg_blkout ?_)
          show SV.v .b (decide ((b : Int) = (b : Int))) = _
          rw [bb]
      · refine ⟨Nat.le_refl _, ?_, ?_, ?_, ?_⟩
        · show (0 : Rat) = sumL (ps.drop ps.length)
          rw [List.drop_length]
          rfl
        · exact dz_mono (by show 1 ≤ 61 * (ps.length - ps.length) + 1; omega) d0
        · show ps.length - 1 < ps.length
          omega
        · intro x _
          exact ⟨fun j _ h1 h2 => absurd h2 (by simp only at h1; omega), fun j _ h1 h2 => absurd (show j < ps.length - 1 from h2) (by have h1 : ps.length ≤ j := h1; omega)⟩
      · refine ent_of rfl rfl ?_ ?_
        · have wb : ((ps.length - 1 : Nat) : Int) = IntKind.i64.wrap ((l.length : Int) - 1) := by rw [w1]; omega
          exact ⟨rfl, rfl, rfl, rfl, rfl, ratT_zero, wb, w1.symm, trivial⟩
        · exact trivial
  · have h1 := Sum_err l (by omega) hs hE
    have h2 := Least_err l hnil (by omega) hs hE
    obtain ⟨E, eE⟩ : ∃ x, ratEs l = x := ⟨_, rfl⟩
    rw [eE] at cE h1 h2 hE
    have hEE := decide_eq_true (rfl : E = E)
    have hEn : (!decide (E = 0)) = true := by rw [decide_eq_false hE]; rfl
    refine h1.mono ?_
    rintro _ rfl
    refine h2.mono ?_
    rintro _ rfl
    refine And.intro (fun h => by first | (cases h; done) | exact (nf h hb).elim) (fun _ => ?_)
    refine And.intro (fun h => by first | (cases h; done) | exact (nf h hz0).elim) (fun _ => ?_)
    refine cE.mono ?_
    rintro _ rfl
    refine And.intro (fun _ => ?_) (fun h => by first | (cases h; done) | exact (nf hEn h).elim)
    repeat (first | refine wpg_skipc ?_ | refine wpg_next ?_ | refine wpg_blkout ?_)
    first | refine wpg_seq (wpg_region (id := 11) rfl ?_) | refine wpg_seq (wpg_seq (wpg_region (id := 11) rfl ?_)) | refine wpg_region (id := 11) rfl ?_ | refine wpg_seq (wpg_block rfl (wpg_seq (wpg_region (id := 11) rfl ?_))) | refine wpg_block rfl (wpg_seq (wpg_region (id := 11) rfl ?_))
    refine wpg_v rfl (fun _ => rfl) rfl rfl ?_
    refine wpg_v rfl (fun _ => rfl) rfl rfl ?_
    refine wpg_v rfl (fun _ => rfl) rfl rfl ?_
    refine wpg_v rfl (fun _ => rfl) rfl rfl ?_
    refine wpg_vg rfl rfl rfl hEE (fun _ => rfl) rfl rfl ?_
    refine wpg_vg rfl rfl rfl hEE (fun _ => rfl) rfl rfl ?_
    refine wpg_vg rfl rfl rfl hEE (fun _ => rfl) rfl rfl ?_
    refine wpg_pt rfl rfl rfl hEE rfl rfl rfl ?_
    refine wpg_v rfl (fun _ => rfl) rfl rfl ?_
    refine wpg_vg rfl rfl rfl hEE (fun _ => rfl) rfl rfl ?_
    refine wpg_vg rfl rfl rfl hEE (fun _ => rfl) rfl rfl ?_
    refine wpg_pt rfl rfl rfl hEE rfl rfl rfl ?_
    refine wpg_v rfl (fun _ => rfl) rfl rfl ?_
    refine wpg_vg rfl rfl rfl rfl (fun _ => rfl) rfl rfl ?_
    refine wpg_vg rfl rfl rfl rfl (fun _ => rfl) rfl rfl ?_
    refine wpg_pt rfl rfl rfl rfl rfl rfl rfl ?_
    refine wpg_v rfl (fun _ => rfl) rfl rfl ?_
    refine wpg_nil ?_
    repeat (first | refine wpg_next ?_ | refine wpg_blkout ?_)
    rfl
end Go.Proofs.YtlnimeapichgmaaGreatDoor

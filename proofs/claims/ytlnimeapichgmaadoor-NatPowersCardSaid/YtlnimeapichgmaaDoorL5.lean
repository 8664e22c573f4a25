/-
  NatPowers.
-/
import Derived.Test.YtlnimeapichgmaaDoorL3
import Derived.Test.YtlnimeapichgmaaDoorT23
set_option linter.constructorNameAsVariable false
set_option linter.unusedSimpArgs false
set_option linter.unusedVariables false
namespace Go.Proofs.YtlnimeapichgmaaDoor
open Go.Am Go.Tx Dv Go.Lib
set_option maxRecDepth 100000
theorem one_dig (n : Nat) : decDigits (n ^ 0) = [49] := by
  rw [Nat.pow_zero, decDigits_one (by decide)]
  rfl
theorem RxDoorL51one (k:Nat) (h:k≠0):1<10^k:=Nat.one_lt_pow h (by decide)
set_option maxHeartbeats 8000000 in
theorem NatPowers_l (a : List UInt8) (n : Int) (hla : a.length ≤ 9223372036854775806) (hwf : (Lit.int .i64 n).wf = true) : PureOK Tryd.prog hints 7 [.v .s a, .v (.i .i64) n] (fun V => V = .v .b true) := by
  refine pure_rule (fn := Tryd.f7) (code := bodyOf Tryd.f7) tys_ok (by kernel_rfl) rfl Tryd.func7 (by kernel_rfl) (Nat.le_of_ble_eq_true (by kernel_rfl)) ?_
  have hA := Power_t a n hla
  have hF := NatError_t a hla
  refine natFact_t.mono ?_
  rintro _ rfl
  refine And.intro (fun h => nomatch h) (fun _ => ?_)
  by_cases hE : natErr a = 0
  · obtain ⟨ca, la⟩ := natErr_zero hE
    have hts : ∀ {m : Nat}, m < 10 ^ 2000 ↔ (decDigits m).length ≤ 2000 := fun {m} => (digits_len (k:=2000) (by decide)).symm
    have hone : 1 < 10 ^ 2000 := RxDoorL51one 2000 (by decide)
    have ha0 : (a == [48]) = decide (dec a = 0) := by
      have := one_text (dec a) [48] (by refine ⟨by simp, fun c hc => by rw [List.mem_singleton.1 hc]; decide, fun h => absurd h (by decide)⟩)
      rw [ca.eq] at this
      exact this
    have ha1 : (a == [49]) = decide (dec a = 1) := by
      have := one_text (dec a) [49] (by refine ⟨by simp, fun c hc => by rw [List.mem_singleton.1 hc]; decide, fun h => absurd h (by decide)⟩)
      rw [ca.eq] at this
      exact this
    generalize 10 ^ 2000 = P at *
    have hd : decide (natErr a = 0) = true := decide_eq_true hE
    rw [hE] at hF
    obtain ⟨⟨r, e⟩, hre⟩ : ∃ x, powR a n = x := ⟨_, rfl⟩
    rw [hre] at hA
    refine hA.mono ?_
    rintro _ rfl
    refine hF.mono ?_
    rintro _ rfl
    first | refine wpg_seq (wpg_region rfl ?_) | refine wpg_seq (wpg_seq (wpg_region rfl ?_))
    iterate 3 refine wpg_v rfl (fun _ => rfl) rfl rfl ?_
    iterate 3 refine wpg_vg rfl rfl rfl rfl (fun _ => rfl) rfl rfl ?_
    cases hn : decide (n < 0) with
    | true =>
      have hR : powR a n = ([], 4) := by simp only [powR, hd, hn]
      rw [hR] at hre
      cases hre
      iterate 2 refine wpg_skip rfl rfl rfl rfl rfl rfl ?_
      refine wpg_ptg rfl rfl rfl rfl rfl rfl rfl rfl rfl rfl ?_
      refine wpg_pt rfl rfl rfl rfl rfl rfl rfl ?_
      refine wpg_nil ?_
      refine And.intro (fun _ => ?_) (fun h => nomatch h)
      refine And.intro (fun _ => ?_) (fun h => nomatch h)
      refine wpg_seq (wpg_region rfl ?_)
      iterate 4 refine wpg_v rfl (fun _ => rfl) rfl rfl ?_
      iterate 2 refine wpg_vg rfl rfl rfl rfl (fun _ => rfl) rfl rfl ?_
      refine wpg_pt rfl rfl rfl rfl rfl rfl rfl ?_
      refine wpg_v rfl (fun _ => rfl) rfl rfl ?_
      refine wpg_nil ?_
      rfl
    | false =>
      have hn' : ¬ n < 0 := of_decide_eq_false hn
      iterate 2 refine wpg_vg rfl rfl rfl rfl (fun _ => rfl) rfl rfl ?_
      refine wpg_pfg rfl rfl rfl rfl rfl rfl rfl rfl rfl rfl ?_
      refine wpg_pt rfl rfl rfl rfl rfl rfl rfl ?_
      refine wpg_nil ?_
      refine And.intro (fun h => ?_) (fun h => ?_)
      · have h' : decide (10000 < n) = true := h
        have hR : powR a n = ([], 4) := by simp only [powR, hd, hn, h']
        rw [hR] at hre
        cases hre
        refine And.intro (fun _ => ?_) (fun h => nomatch h)
        refine wpg_seq (wpg_region rfl ?_)
        iterate 4 refine wpg_v rfl (fun _ => rfl) rfl rfl ?_
        iterate 2 refine wpg_vg rfl rfl rfl rfl (fun _ => rfl) rfl rfl ?_
        refine wpg_pt rfl rfl rfl rfl rfl rfl rfl ?_
        refine wpg_v rfl (fun _ => rfl) rfl rfl ?_
        refine wpg_nil ?_
        rfl
      have h' : decide (10000 < n) = false := h
      have hn2 : ¬ 10000 < n := of_decide_eq_false h'
      obtain ⟨N, rfl⟩ := Int.eq_ofNat_of_zero_le (show 0 ≤ n by omega)
      have hR : powR a (N : Int) = natT (dec a ^ N) := by
        simp only [powR, hd, hn, h', Int.toNat_natCast]
      rw [hR] at hre
      obtain ⟨M, hM⟩ : ∃ M, min N 30 = M := ⟨_, rfl⟩
      have hM30 : M ≤ 30 := by omega
      have emin : (if (30 : Int) < (N : Int) then (30 : Int) else (N : Int)) = (M : Int) := by
        split <;> omega
      have hbig : dec a ^ M = dec a ^ N → ∀ i, i < M → ¬ dec a ^ (i + 1) < P → r = [] ∧ e = 2 := fun hMN i hi hnb => by
        have hp1 : 0 < dec a := by
          rcases Nat.eq_zero_or_pos (dec a) with h3 | h3
          · exact absurd (by rw [h3, Nat.pow_succ, Nat.mul_zero]; omega) hnb
          · exact h3
        have hnN : ¬ dec a ^ N < P := fun h3 => hnb (Nat.lt_of_le_of_lt (Nat.pow_le_pow_right hp1 hi) (hMN ▸ h3))
        have hbf : Nat.ble (decDigits (dec a ^ N)).length 2000 = false := by
          cases hb : Nat.ble (decDigits (dec a ^ N)).length 2000 with
          | false => rfl
          | true => exact absurd (hts.2 (Nat.le_of_ble_eq_true hb)) hnN
        simp only [natT, hbf] at hre
        cases hre
        exact ⟨rfl, rfl⟩
      have hfin : dec a ^ M = dec a ^ N → dec a ^ M < P → r = decDigits (dec a ^ M) ∧ e = 0 := fun hMN hlP => by
        rw [← hMN] at hre
        simp only [natT, Nat.ble_eq_true_of_le (hts.1 hlP)] at hre
        cases hre
        exact ⟨rfl, rfl⟩
      refine And.intro (fun h => nomatch h) (fun _ => ?_)
      first | refine wpg_seq (wpg_region rfl ?_) | refine wpg_seq (wpg_seq (wpg_region rfl ?_))
      iterate 3 refine wpg_v rfl (fun _ => rfl) rfl rfl ?_
      cases h30 : decide ((30 : Int) < (N : Int)) with
      | false =>
        have h30' : ¬ (30 : Int) < (N : Int) := of_decide_eq_false h30
        have hMN : dec a ^ M = dec a ^ N := by rw [show M = N by omega]
        iterate 2 refine wpg_skip rfl rfl rfl rfl rfl rfl ?_
        refine wpg_pf rfl rfl rfl rfl rfl rfl rfl ?_
        refine wpg_v rfl (fun _ => rfl) rfl rfl ?_
        iterate 2 refine wpg_skip rfl rfl rfl rfl rfl rfl ?_
        refine wpg_pf rfl rfl rfl rfl rfl rfl rfl ?_
        refine wpg_nil ?_
        refine And.intro (fun h => nomatch h) (fun _ => ?_)
        refine loop_wp tys_ok rfl (fun (i : Nat) => [(0, .v .s a), (5, .v .s r), (6, .v (.i .i64) e), (8, .v .s (decDigits (dec a ^ i))), (49, .v (.i .i64) (M : Int)), (50, .v (.i .i64) (i : Int))]) (fun _ => [])
          (fun i => i ≤ M ∧ dec a ^ i < P) (fun i => M - i) ?_ 0 ?_ ?_
        · rintro i ⟨hi, hp⟩
          refine And.intro (fun h => ?_) (fun h => ?_)
          · have hlt : i < M := by have h' : (i : Int) < (M : Int) := of_decide_eq_true h; omega
            have hN := NatMul_t (decDigits (dec a ^ i)) a (dg_digits _) ca.2.1 (by have := hts.1 hp; omega) (by omega)
            rw [dec_digits, ← Nat.pow_succ] at hN
            refine hN.mono ?_
            rintro _ rfl
            refine And.intro (fun h => ?_) (fun h => ?_)
            · have h' : (2000 : Int) < ((decDigits (dec a ^ (i + 1))).length : Int) := of_decide_eq_true h
              obtain ⟨rfl, rfl⟩ := hbig hMN i hlt (fun h3 => by have := hts.1 h3; omega)
              refine wpg_seq (wpg_region rfl ?_)
              iterate 3 refine wpg_v rfl (fun _ => rfl) rfl rfl ?_
              iterate 2 refine wpg_vg rfl rfl rfl rfl (fun _ => rfl) rfl rfl ?_
              refine wpg_pt rfl rfl rfl rfl rfl rfl rfl ?_
              refine wpg_v rfl (fun _ => rfl) rfl rfl ?_
              refine wpg_nil ?_
              rfl
            · have h' : ¬ (2000 : Int) < ((decDigits (dec a ^ (i + 1))).length : Int) := of_decide_eq_false h
              have wi : IntKind.i64.wrap ((i : Int) + 1) = ((i + 1 : Nat) : Int) := wrap64 (by omega) (by omega)
              refine ⟨i + 1, ⟨hlt, hts.2 (by omega)⟩, by show M - (i + 1) < M - i; omega, ?_⟩
              refine ent_of rfl rfl ?_ ?_
              · exact ⟨rfl, rfl, rfl, rfl, rfl, wi.symm, trivial⟩
              · exact trivial
          · have he : i = M := by have h' : ¬ (i : Int) < (M : Int) := of_decide_eq_false h; omega
            rw [he] at hp ⊢
            obtain ⟨rfl, rfl⟩ := hfin hMN hp
            have hww : (decDigits (dec a ^ M) == decDigits (dec a ^ M)) = true := by simp
            refine wpg_seq (wpg_region rfl ?_)
            iterate 3 refine wpg_v rfl (fun _ => rfl) rfl rfl ?_
            iterate 3 refine wpg_vg rfl rfl rfl rfl (fun _ => rfl) rfl rfl ?_
            refine wpg_pt rfl rfl rfl rfl rfl rfl rfl ?_
            refine wpg_v rfl (fun _ => rfl) rfl rfl ?_
            refine wpg_nil ?_
            show SV.v .b (decDigits (dec a ^ M) == decDigits (dec a ^ M)) = _
            rw [hww]
        · exact ⟨Nat.zero_le _, by rw [Nat.pow_zero]; exact hone⟩
        · refine ent_of rfl rfl ?_ ?_
          · exact ⟨rfl, rfl, rfl, one_dig (dec a), emin.symm, rfl, trivial⟩
          · exact trivial
      | true =>
        have h30' : (30 : Int) < (N : Int) := of_decide_eq_true h30
        have hM3 : M = 30 := by omega
        iterate 2 refine wpg_vg rfl rfl rfl rfl (fun _ => rfl) rfl rfl ?_
        refine wpg_pt rfl rfl rfl rfl rfl rfl rfl ?_
        refine wpg_v rfl (fun _ => rfl) rfl rfl ?_
        cases hz : (a != [48]) with
        | false =>
          have hz' : dec a = 0 := by
            have h1 : (!(a == [48])) = false := hz
            rw [ha0] at h1
            cases hc : decide (dec a = 0) with
            | true => exact of_decide_eq_true hc
            | false => rw [hc] at h1; cases h1
          have hMN : dec a ^ M = dec a ^ N := by rw [hz', Nat.zero_pow (by omega), Nat.zero_pow (by omega)]
          iterate 2 refine wpg_skip rfl rfl rfl hz rfl rfl ?_
          refine wpg_pf rfl rfl rfl hz rfl rfl rfl ?_
          refine wpg_nil ?_
          refine And.intro (fun h => nomatch h) (fun _ => ?_)
          refine loop_wp tys_ok rfl (fun (i : Nat) => [(0, .v .s a), (5, .v .s r), (6, .v (.i .i64) e), (8, .v .s (decDigits (dec a ^ i))), (49, .v (.i .i64) (M : Int)), (50, .v (.i .i64) (i : Int))]) (fun _ => [])
            (fun i => i ≤ M ∧ dec a ^ i < P) (fun i => M - i) ?_ 0 ?_ ?_
          · rintro i ⟨hi, hp⟩
            refine And.intro (fun h => ?_) (fun h => ?_)
            · have hlt : i < M := by have h' : (i : Int) < (M : Int) := of_decide_eq_true h; omega
              have hN := NatMul_t (decDigits (dec a ^ i)) a (dg_digits _) ca.2.1 (by have := hts.1 hp; omega) (by omega)
              rw [dec_digits, ← Nat.pow_succ] at hN
              refine hN.mono ?_
              rintro _ rfl
              refine And.intro (fun h => ?_) (fun h => ?_)
              · have h' : (2000 : Int) < ((decDigits (dec a ^ (i + 1))).length : Int) := of_decide_eq_true h
                obtain ⟨rfl, rfl⟩ := hbig hMN i hlt (fun h3 => by have := hts.1 h3; omega)
                refine wpg_seq (wpg_region rfl ?_)
                iterate 3 refine wpg_v rfl (fun _ => rfl) rfl rfl ?_
                iterate 2 refine wpg_vg rfl rfl rfl rfl (fun _ => rfl) rfl rfl ?_
                refine wpg_pt rfl rfl rfl rfl rfl rfl rfl ?_
                refine wpg_v rfl (fun _ => rfl) rfl rfl ?_
                refine wpg_nil ?_
                rfl
              · have h' : ¬ (2000 : Int) < ((decDigits (dec a ^ (i + 1))).length : Int) := of_decide_eq_false h
                have wi : IntKind.i64.wrap ((i : Int) + 1) = ((i + 1 : Nat) : Int) := wrap64 (by omega) (by omega)
                refine ⟨i + 1, ⟨hlt, hts.2 (by omega)⟩, by show M - (i + 1) < M - i; omega, ?_⟩
                refine ent_of rfl rfl ?_ ?_
                · exact ⟨rfl, rfl, rfl, rfl, rfl, wi.symm, trivial⟩
                · exact trivial
            · have he : i = M := by have h' : ¬ (i : Int) < (M : Int) := of_decide_eq_false h; omega
              rw [he] at hp ⊢
              obtain ⟨rfl, rfl⟩ := hfin hMN hp
              have hww : (decDigits (dec a ^ M) == decDigits (dec a ^ M)) = true := by simp
              refine wpg_seq (wpg_region rfl ?_)
              iterate 3 refine wpg_v rfl (fun _ => rfl) rfl rfl ?_
              iterate 3 refine wpg_vg rfl rfl rfl rfl (fun _ => rfl) rfl rfl ?_
              refine wpg_pt rfl rfl rfl rfl rfl rfl rfl ?_
              refine wpg_v rfl (fun _ => rfl) rfl rfl ?_
              refine wpg_nil ?_
              show SV.v .b (decDigits (dec a ^ M) == decDigits (dec a ^ M)) = _
              rw [hww]
          · exact ⟨Nat.zero_le _, by rw [Nat.pow_zero]; exact hone⟩
          · refine ent_of rfl rfl ?_ ?_
            · exact ⟨rfl, rfl, rfl, one_dig (dec a), emin.symm, rfl, trivial⟩
            · exact trivial
        | true =>
          iterate 2 refine wpg_vg rfl rfl rfl hz (fun _ => rfl) rfl rfl ?_
          refine wpg_pt rfl rfl rfl hz rfl rfl rfl ?_
          refine wpg_nil ?_
          refine And.intro (fun _ => rfl) (fun h => ?_)
          have hz' : dec a = 1 := by
            have h1 : (!(a == [49])) = false := h
            rw [ha1] at h1
            cases hc : decide (dec a = 1) with
            | true => exact of_decide_eq_true hc
            | false => rw [hc] at h1; cases h1
          have hMN : dec a ^ M = dec a ^ N := by rw [hz', Nat.one_pow, Nat.one_pow]
          refine loop_wp tys_ok rfl (fun (i : Nat) => [(0, .v .s a), (5, .v .s r), (6, .v (.i .i64) e), (8, .v .s (decDigits (dec a ^ i))), (49, .v (.i .i64) (M : Int)), (50, .v (.i .i64) (i : Int))]) (fun _ => [])
            (fun i => i ≤ M ∧ dec a ^ i < P) (fun i => M - i) ?_ 0 ?_ ?_
          · rintro i ⟨hi, hp⟩
            refine And.intro (fun h => ?_) (fun h => ?_)
            · have hlt : i < M := by have h' : (i : Int) < (M : Int) := of_decide_eq_true h; omega
              have hN := NatMul_t (decDigits (dec a ^ i)) a (dg_digits _) ca.2.1 (by have := hts.1 hp; omega) (by omega)
              rw [dec_digits, ← Nat.pow_succ] at hN
              refine hN.mono ?_
              rintro _ rfl
              refine And.intro (fun h => ?_) (fun h => ?_)
              · have h' : (2000 : Int) < ((decDigits (dec a ^ (i + 1))).length : Int) := of_decide_eq_true h
                obtain ⟨rfl, rfl⟩ := hbig hMN i hlt (fun h3 => by have := hts.1 h3; omega)
                refine wpg_seq (wpg_region rfl ?_)
                iterate 3 refine wpg_v rfl (fun _ => rfl) rfl rfl ?_
                iterate 2 refine wpg_vg rfl rfl rfl rfl (fun _ => rfl) rfl rfl ?_
                refine wpg_pt rfl rfl rfl rfl rfl rfl rfl ?_
                refine wpg_v rfl (fun _ => rfl) rfl rfl ?_
                refine wpg_nil ?_
                rfl
              · have h' : ¬ (2000 : Int) < ((decDigits (dec a ^ (i + 1))).length : Int) := of_decide_eq_false h
                have wi : IntKind.i64.wrap ((i : Int) + 1) = ((i + 1 : Nat) : Int) := wrap64 (by omega) (by omega)
                refine ⟨i + 1, ⟨hlt, hts.2 (by omega)⟩, by show M - (i + 1) < M - i; omega, ?_⟩
                refine ent_of rfl rfl ?_ ?_
                · exact ⟨rfl, rfl, rfl, rfl, rfl, wi.symm, trivial⟩
                · exact trivial
            · have he : i = M := by have h' : ¬ (i : Int) < (M : Int) := of_decide_eq_false h; omega
              rw [he] at hp ⊢
              obtain ⟨rfl, rfl⟩ := hfin hMN hp
              have hww : (decDigits (dec a ^ M) == decDigits (dec a ^ M)) = true := by simp
              refine wpg_seq (wpg_region rfl ?_)
              iterate 3 refine wpg_v rfl (fun _ => rfl) rfl rfl ?_
              iterate 3 refine wpg_vg rfl rfl rfl rfl (fun _ => rfl) rfl rfl ?_
              refine wpg_pt rfl rfl rfl rfl rfl rfl rfl ?_
              refine wpg_v rfl (fun _ => rfl) rfl rfl ?_
              refine wpg_nil ?_
              show SV.v .b (decDigits (dec a ^ M) == decDigits (dec a ^ M)) = _
              rw [hww]
          · exact ⟨Nat.zero_le _, by rw [Nat.pow_zero]; exact hone⟩
          · refine ent_of rfl rfl ?_ ?_
            · exact ⟨rfl, rfl, rfl, one_dig (dec a), emin.symm, rfl, trivial⟩
            · exact trivial
  · have hR : powR a n = ([], natErr a) := by
      have hd : decide (natErr a = 0) = false := decide_eq_false hE
      simp only [powR, hd]
    rw [hR] at hA
    generalize natErr a = E at *
    have h0 : decide (E = 0) = false := decide_eq_false hE
    have hn : (!decide (E = 0)) = true := by rw [h0]; rfl
    have hd : decide (E = E) = true := decide_eq_true rfl
    refine hA.mono ?_
    rintro _ rfl
    refine hF.mono ?_
    rintro _ rfl
    first | refine wpg_seq (wpg_region rfl ?_) | refine wpg_seq (wpg_seq (wpg_region rfl ?_))
    iterate 3 refine wpg_v rfl (fun _ => rfl) rfl rfl ?_
    iterate 3 refine wpg_skip rfl rfl rfl h0 rfl rfl ?_
    iterate 2 refine wpg_skipT rfl rfl rfl rfl rfl ?_
    refine wpg_skip rfl rfl rfl h0 rfl rfl ?_
    refine wpg_pf rfl rfl rfl h0 rfl rfl rfl ?_
    refine wpg_nil ?_
    refine And.intro (fun h => nomatch h) (fun _ => ?_)
    refine And.intro (fun _ => ?_) (fun h => (nf hn h).elim)
    refine wpg_seq (wpg_region rfl ?_)
    iterate 4 refine wpg_v rfl (fun _ => rfl) rfl rfl ?_
    iterate 2 refine wpg_vg rfl rfl rfl hd (fun _ => rfl) rfl rfl ?_
    refine wpg_pt rfl rfl rfl hd rfl rfl rfl ?_
    refine wpg_v rfl (fun _ => rfl) rfl rfl ?_
    refine wpg_nil ?_
    rfl
end Go.Proofs.YtlnimeapichgmaaDoor

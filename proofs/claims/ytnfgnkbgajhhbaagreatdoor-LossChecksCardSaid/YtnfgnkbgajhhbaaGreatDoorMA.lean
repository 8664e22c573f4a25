/-
  loss.Tangents, Chords, Gap: their errors.
-/
import Derived.Test.YtnfgnkbgajhhbaaGreatDoorM9
set_option linter.constructorNameAsVariable false
set_option linter.unusedSimpArgs false
set_option linter.unusedVariables false
namespace Go.Proofs.YtnfgnkbgajhhbaaGreatDoor
open Go.Am Go.Tx Dv Go.Lib
set_option maxRecDepth 100000
noncomputable def chkE (a : List UInt8) (l : List (List UInt8)) : Int := fst2 (resE a) (ptsE l)
theorem chk_zero {a : List UInt8} {l : List (List UInt8)} (ha : a.length ≤ 12) (hl : ∀ x ∈ l, x.length ≤ 12) (h : chkE a l = 0) :
    ∃ (p : Rat) (ps : List Rat), a = ratT p ∧ l = ps.map ratT ∧ fitQ p = true ∧ (∀ q ∈ ps, fitQ q = true) ∧ dz p 12 ∧ (∀ q ∈ ps, dz q 12) ∧ 2 ≤ ps.length ∧ ps.length ≤ 16 := by
  obtain ⟨h1, h2⟩ := fst2_zero h
  have h3 : ratErr a = 0 := by
    by_cases h : ratErr a = 0
    · exact h
    · rw [resE_err h] at h1; exact absurd h1 h
  obtain ⟨p, rfl, hp⟩ := ratErr_zero h3
  have hE : ptsE l = match decide ((16 : Int) < (l.length : Int)) with | true => 2 | false => match decide ((l.length : Int) < 2) with | true => 8 | false => match decide (ratEs l = 0) with | false => ratEs l | true => ascE (l.map qOf) := rfl
  rw [h2] at hE
  cases b1 : decide ((16 : Int) < (l.length : Int)) with
  | true => rw [b1] at hE; cases hE
  | false =>
    rw [b1] at hE
    cases b2 : decide ((l.length : Int) < 2) with
    | true => rw [b2] at hE; cases hE
    | false =>
      rw [b2] at hE
      by_cases h0 : ratEs l = 0
      · obtain ⟨ps, rfl, hps⟩ := all_rat (ratEs_zero h0)
        have n1 := of_decide_eq_false b1
        have n2 := of_decide_eq_false b2
        rw [List.length_map] at n1 n2
        exact ⟨p, ps, rfl, rfl, hp, hps, dz_text ha (by decide), fun q hq => dz_text (hl _ (List.mem_map_of_mem hq)) (by decide), by omega, by omega⟩
      · rw [decide_eq_false h0] at hE
        exact absurd hE.symm h0
theorem Tangents_t (a : List UInt8) (l : List (List UInt8)) (ha : a.length ≤ 12) (hl : ∀ x ∈ l, x.length ≤ 12) : PureOK Tryz.prog hints 40 [.v .s a, .v (.l .s) l] (fun V => ∃ X, V = .tup [X, .v (.i .i64) (chkE a l)]) := by
  refine pure_rule (fn := Tryz.f40) (code := bodyOf Tryz.f40) tys_ok (by kernel_rfl) rfl Tryz.func40 (by kernel_rfl) (Nat.le_of_ble_eq_true (by kernel_rfl)) ?_
  have hC := lcheck_t a l (Nat.le_trans ha (by decide)) (fun x hx => Nat.le_trans (hl x hx) (by decide))
  have hz := chk_zero ha hl
  rw [show fst2 (resE a) (ptsE l) = chkE a l from rfl] at hC
  obtain ⟨E, eE⟩ : ∃ x, chkE a l = x := ⟨_, rfl⟩
  rw [eE] at hC hz ⊢
  refine hC.mono ?_
  rintro _ rfl
  refine And.intro (fun h => ?_) (fun h => ?_)
  · exact ⟨_, rfl⟩
  · have h' : (!decide (E = 0)) = false := h
    have h0 : E = 0 := by simpa using h'
    obtain ⟨p, ps, rfl, hlp, hp, hps, dp, dps, n1, n2⟩ := hz h0
    subst h0
    have hPA := ParseAll_i ps (by omega) hps
    rw [← hlp] at hPA
    refine (Parse_t p hp).mono ?_
    rintro _ rfl
    refine hPA.mono ?_
    rintro _ _ _ ⟨rfl, rfl, rfl⟩
    refine And.intro (show 0 + ps.length ≤ (ps.map encQ).length by simp) ?_
    refine (ltangents_t p ps n2 dp dps).mono ?_
    rintro _ ⟨ms, rfl, m1, m2⟩
    refine (ltexts_t ms m1 m2).mono ?_
    rintro _ ⟨X, rfl⟩
    exact ⟨_, rfl⟩
theorem Chords_t (a : List UInt8) (l : List (List UInt8)) (ha : a.length ≤ 12) (hl : ∀ x ∈ l, x.length ≤ 12) : PureOK Tryz.prog hints 41 [.v .s a, .v (.l .s) l] (fun V => ∃ X, V = .tup [X, .v (.i .i64) (chkE a l)]) := by
  refine pure_rule (fn := Tryz.f41) (code := bodyOf Tryz.f41) tys_ok (by kernel_rfl) rfl Tryz.func41 (by kernel_rfl) (Nat.le_of_ble_eq_true (by kernel_rfl)) ?_
  have hC := lcheck_t a l (Nat.le_trans ha (by decide)) (fun x hx => Nat.le_trans (hl x hx) (by decide))
  have hz := chk_zero ha hl
  rw [show fst2 (resE a) (ptsE l) = chkE a l from rfl] at hC
  obtain ⟨E, eE⟩ : ∃ x, chkE a l = x := ⟨_, rfl⟩
  rw [eE] at hC hz ⊢
  refine hC.mono ?_
  rintro _ rfl
  refine And.intro (fun h => ?_) (fun h => ?_)
  · exact ⟨_, rfl⟩
  · have h' : (!decide (E = 0)) = false := h
    have h0 : E = 0 := by simpa using h'
    obtain ⟨p, ps, rfl, hlp, hp, hps, dp, dps, n1, n2⟩ := hz h0
    subst h0
    have hPA := ParseAll_i ps (by omega) hps
    rw [← hlp] at hPA
    refine (Parse_t p hp).mono ?_
    rintro _ rfl
    refine hPA.mono ?_
    rintro _ _ _ ⟨rfl, rfl, rfl⟩
    refine And.intro (show 0 + ps.length ≤ (ps.map encQ).length by simp) ?_
    refine (lchords_t p ps n2 n1 dp dps).mono ?_
    rintro _ ⟨ms, rfl, m1, m2⟩
    refine (ltexts_t ms m1 m2).mono ?_
    rintro _ ⟨X, rfl⟩
    exact ⟨_, rfl⟩
theorem dz_quarter {q : Rat} {k : Nat} (h : dz q k) : dz (q / ((4 : Int) : Rat)) (k + 1) := by
  rw [Rat.div_def]
  exact dz_mul h ⟨dl_le (by decide) (by decide +kernel), dl_le (by decide) (by decide +kernel)⟩
set_option maxHeartbeats 8000000 in
theorem Gap_t (a : List UInt8) (l : List (List UInt8)) (ha : a.length ≤ 12) (hl : ∀ x ∈ l, x.length ≤ 12) : PureOK Tryz.prog hints 42 [.v .s a, .v (.l .s) l] (fun V => ∃ X, V = rs (X, chkE a l)) := by
  refine pure_rule (fn := Tryz.f42) (code := bodyOf Tryz.f42) tys_ok (by kernel_rfl) rfl Tryz.func42 (by kernel_rfl) (Nat.le_of_ble_eq_true (by kernel_rfl)) ?_
  have hC := lcheck_t a l (Nat.le_trans ha (by decide)) (fun x hx => Nat.le_trans (hl x hx) (by decide))
  have hz := chk_zero ha hl
  rw [show fst2 (resE a) (ptsE l) = chkE a l from rfl] at hC
  obtain ⟨E, eE⟩ : ∃ x, chkE a l = x := ⟨_, rfl⟩
  rw [eE] at hC hz ⊢
  refine hC.mono ?_
  rintro _ rfl
  refine And.intro (fun h => ?_) (fun h => ?_)
  · exact ⟨[], rfl⟩
  have h' : (!decide (E = 0)) = false := h
  have h0 : E = 0 := by simpa using h'
  obtain ⟨p, ps, rfl, hlp, hp, hps, dp, dps, n1, n2⟩ := hz h0
  subst h0
  have hPA := ParseAll_i ps (by omega) hps
  rw [← hlp] at hPA
  refine hPA.mono ?_
  rintro _ _ _ ⟨rfl, rfl, rfl⟩
  refine (Whole_t 0 (by decide) (by decide)).mono ?_
  rintro _ rfl
  refine And.intro rfl ?_
  refine loop_wp tys_ok rfl (fun (t : Nat × Rat) => [(0, .v .s (ratT p)), (7, .ref 0 0 ps.length none), (8, .ptr 1 0 0), (9, .v (.i .i64) ((t.1 + 1 : Nat) : Int))]) (fun t => [.row qct (ps.map encQ) true, cellQ t.2])
    (fun t => t.1 + 1 ≤ ps.length ∧ dz t.2 25) (fun t => ps.length - t.1) ?_ (0, 0) ?_ ?_
  · rintro ⟨i, S⟩ ⟨hi, hS⟩
    simp only at hi hS
    refine And.intro (fun h => ?_) (fun h => ?_)
    · have hlt : i + 1 < ps.length := by have h' : ((i + 1 : Nat) : Int) < ((ps.length : Nat) : Int) := of_decide_eq_true h; omega
      have w1 : IntKind.i64.wrap (((i + 1 : Nat) : Int) - 1) = (i : Int) := by rw [wrap64 (by omega) (by omega)]; omega
      have w2 : IntKind.i64.wrap (((i + 1 : Nat) : Int) + 1) = ((i + 1 + 1 : Nat) : Int) := wrap64 (by omega) (by omega)
      have gx : (ps.map encQ)[0 + (IntKind.i64.wrap (((i + 1 : Nat) : Int) - 1)).toNat]? = some (encQ (ps[i]'(by omega))) := by rw [w1, Int.toNat_natCast, Nat.zero_add]; exact QL_at (by omega)
      have gy : (ps.map encQ)[0 + ((i + 1 : Nat) : Int).toNat]? = some (encQ ps[i + 1]) := by rw [Int.toNat_natCast, Nat.zero_add]; exact QL_at hlt
      have gp := dps (ps[i]'(by omega)) (List.getElem_mem _)
      have gq := dps ps[i + 1] (List.getElem_mem hlt)
      obtain ⟨u, hu⟩ : ∃ x, ps[i]'(by omega) = x := ⟨_, rfl⟩
      obtain ⟨v, hv⟩ : ∃ x, ps[i + 1] = x := ⟨_, rfl⟩
      rw [hu] at gx gp
      rw [hv] at gy gq
      have hn : (0 : Int) ≤ IntKind.i64.wrap (((i + 1 : Nat) : Int) - 1) := by rw [w1]; exact Int.natCast_nonneg i
      have hn2 : IntKind.i64.wrap (((i + 1 : Nat) : Int) - 1) < ((ps.length : Nat) : Int) := by rw [w1]; omega
      refine And.intro ⟨Int.natCast_nonneg _, show ((i + 1 : Nat) : Int) < ((ps.length : Nat) : Int) by omega⟩ ?_
      refine Exists.intro _ (And.intro gy ?_)
      refine And.intro ⟨hn, hn2⟩ ?_
      refine Exists.intro _ (And.intro gx ?_)
      have dd : dz (v - u) 25 := by rw [Rat.sub_eq_add_neg]; exact dz_add gq (dz_neg gp)
      refine (RSub_t v u (k := 208) (by decide) (dsz gq (by decide)) (dsz gp (by decide))).mono ?_
      rintro _ rfl
      refine And.intro rfl ?_
      refine And.intro rfl ?_
      refine And.intro rfl ?_
      refine (RCmp_t (v - u) S (k := 208) (by decide) (dsz dd (by decide)) (dsz hS (by decide))).mono ?_
      rintro _ rfl
      refine And.intro (fun _ => ?_) (fun _ => ?_)
      · refine And.intro rfl ?_
        refine And.intro rfl ?_
        refine ⟨(i + 1, v - u), ⟨hlt, dd⟩, by show ps.length - (i + 1) < ps.length - i; omega, ?_⟩
        refine ent_of rfl rfl ?_ ?_
        · exact ⟨rfl, ⟨rfl, rfl, rfl⟩, ⟨rfl, rfl⟩, w2.symm, trivial⟩
        · exact ⟨⟨rfl, fun _ => rfl⟩, ⟨⟨rfl, rfl, rfl, rfl, trivial⟩, fun _ => rfl⟩, trivial⟩
      · refine ⟨(i + 1, S), ⟨hlt, hS⟩, by show ps.length - (i + 1) < ps.length - i; omega, ?_⟩
        refine ent_of rfl rfl ?_ ?_
        · exact ⟨rfl, ⟨rfl, rfl, rfl⟩, ⟨rfl, rfl⟩, w2.symm, trivial⟩
        · exact ⟨⟨rfl, fun _ => rfl⟩, ⟨⟨rfl, rfl, rfl, rfl, trivial⟩, fun _ => rfl⟩, trivial⟩
    · have d1 := dz_mul dp hS
      have d2 := dz_mul d1 hS
      have d3 := dz_quarter d2
      have ht := ltext_t (p * S * S / ((4 : Int) : Rat))
      rw [ratR_dz (by decide) (dz_mono (show 63 ≤ 2000 by decide) d3)] at ht
      refine (Parse_t p hp).mono ?_
      rintro _ rfl
      refine And.intro rfl ?_
      refine (RMul_t p S (k := 208) (by decide) (dsz dp (by decide)) (dsz hS (by decide))).mono ?_
      rintro _ rfl
      refine And.intro rfl ?_
      refine (RMul_t (p * S) S (k := 208) (by decide) (dsz d1 (by decide)) (dsz hS (by decide))).mono ?_
      rintro _ rfl
      refine (Whole_t 4 (by decide) (by decide)).mono ?_
      rintro _ rfl
      refine (RDiv_t (p * S * S) ((4 : Int) : Rat) (k := 208) (by decide) (dsz d2 (by decide)) (dsz (k := 1) ⟨dl_le (by decide) (by decide +kernel), dl_le (by decide) (by decide +kernel)⟩ (by decide)) (by decide +kernel)).mono ?_
      rintro _ rfl
      refine ht.mono ?_
      rintro _ rfl
      exact ⟨_, rfl⟩
  · exact ⟨by show 0 + 1 ≤ ps.length; omega, dz_mono (by decide) dz_zero⟩
  · refine ent_of rfl rfl ?_ ?_
    · exact ⟨rfl, ⟨rfl, rfl, rfl⟩, ⟨rfl, rfl⟩, rfl, trivial⟩
    · exact ⟨⟨rfl, fun _ => rfl⟩, ⟨⟨rfl, rfl, rfl, rfl, trivial⟩, fun _ => rfl⟩, trivial⟩
end Go.Proofs.YtnfgnkbgajhhbaaGreatDoor
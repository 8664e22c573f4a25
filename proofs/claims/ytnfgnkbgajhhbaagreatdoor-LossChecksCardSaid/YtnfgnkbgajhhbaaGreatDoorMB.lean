/-
  loss.Bounds: its error.
-/
import Derived.Test.YtnfgnkbgajhhbaaGreatDoorMA
import Derived.Test.YtnfgnkbgajhhbaaGreatDoorQ9
set_option linter.constructorNameAsVariable false
set_option linter.unusedSimpArgs false
set_option linter.unusedVariables false
namespace Go.Proofs.YtnfgnkbgajhhbaaGreatDoor
open Go.Am Go.Tx Dv Go.Lib
set_option maxRecDepth 100000
def outB (x : Rat) (ps : List Rat) : Bool := decide (cmpQ x (ps.getD 0 0) < 0) || decide (0 < cmpQ x (ps.getD (ps.length - 1) 0))
noncomputable def bndE (a : List UInt8) (l : List (List UInt8)) (f : List UInt8) : Int := match decide (fst2 (chkE a l) (ratErr f) = 0) with
  | false => fst2 (chkE a l) (ratErr f)
  | true => match outB (qOf f) (l.map qOf) with
    | true => 4
    | false => 0
theorem at_dz {m : Rat × Rat} {x : Rat} (h : goodP m) (hx : dz x 12) : dz (m.1 + m.2 * x) 213 := dz_add h.1 (dz_mul h.2 hx)
set_option maxHeartbeats 16000000 in
theorem Bounds_t (a : List UInt8) (l : List (List UInt8)) (f : List UInt8) (ha : a.length ≤ 12) (hl : ∀ x ∈ l, x.length ≤ 12) (hf : f.length ≤ 12) : PureOK Tryz.prog hints 43 [.v .s a, .v (.l .s) l, .v .s f] (fun V => ∃ X Y, V = .tup [.v .s X, .v .s Y, .v (.i .i64) (bndE a l f)]) := by
  refine pure_rule (fn := Tryz.f43) (code := bodyOf Tryz.f43) tys_ok (by kernel_rfl) rfl Tryz.func43 (by kernel_rfl) (Nat.le_of_ble_eq_true (by kernel_rfl)) ?_
  have hC := lcheck_t a l (Nat.le_trans ha (by decide)) (fun x hx => Nat.le_trans (hl x hx) (by decide))
  have hF := RCheck_t f (Nat.le_trans hf (by decide))
  have hz := chk_zero ha hl
  have hB : bndE a l f = match decide (fst2 (chkE a l) (ratErr f) = 0) with | false => fst2 (chkE a l) (ratErr f) | true => match outB (qOf f) (l.map qOf) with | true => 4 | false => 0 := rfl
  have h2 : fst2 (chkE a l) (ratErr f) = match decide (chkE a l = 0) with | true => ratErr f | false => chkE a l := rfl
  rw [show fst2 (resE a) (ptsE l) = chkE a l from rfl] at hC
  obtain ⟨B, eB⟩ : ∃ x, bndE a l f = x := ⟨_, rfl⟩
  obtain ⟨E, eE⟩ : ∃ x, chkE a l = x := ⟨_, rfl⟩
  obtain ⟨G, eG⟩ : ∃ x, ratErr f = x := ⟨_, rfl⟩
  rw [eB] at hB ⊢
  rw [eE, eG] at h2 hB
  rw [eE] at hC hz
  rw [eG] at hF
  refine hC.mono ?_
  rintro _ rfl
  refine And.intro (fun h => ?_) (fun h => ?_)
  · have h' : (!decide (E = 0)) = true := h
    have hd : decide (E = 0) = false := by cases hd : decide (E = 0) <;> simp [hd] at h' ⊢
    rw [hd] at h2
    simp only at h2
    rw [h2, hd] at hB
    rw [hB]
    exact ⟨[], [], rfl⟩
  have h' : (!decide (E = 0)) = false := h
  have h0 : E = 0 := by simpa using h'
  rw [decide_eq_true h0] at h2
  simp only at h2
  rw [h2] at hB
  refine hF.mono ?_
  rintro _ rfl
  refine And.intro (fun h => ?_) (fun h => ?_)
  · have h' : (!decide (G = 0)) = true := h
    have hd : decide (G = 0) = false := by cases hd : decide (G = 0) <;> simp [hd] at h' ⊢
    rw [hd] at hB
    rw [hB]
    exact ⟨[], [], rfl⟩
  have h' : (!decide (G = 0)) = false := h
  have g0 : G = 0 := by simpa using h'
  rw [decide_eq_true g0] at hB
  rw [g0] at eG
  obtain ⟨x, rfl, hx⟩ := ratErr_zero eG
  have dx := dz_text hf (by decide)
  obtain ⟨y, ps, rfl, hlp, hy, hps, dy, dps, n1, n2⟩ := hz h0
  rw [hlp, map_qOf, qOf_ratT] at hB
  simp only at hB
  have hPA := ParseAll_i ps (by omega) hps
  rw [← hlp] at hPA
  refine hPA.mono ?_
  rintro _ _ _ ⟨rfl, rfl, rfl⟩
  refine (Parse_t x hx).mono ?_
  rintro _ rfl
  refine (Parse_t y hy).mono ?_
  rintro _ rfl
  refine And.intro rfl ?_
  refine And.intro rfl ?_
  have hn0 : 0 < ps.length := by omega
  have hnl : ps.length - 1 < ps.length := by omega
  have hO : outB x ps = (decide (cmpQ x ps[0] < 0) || decide (0 < cmpQ x ps[ps.length - 1])) := by
    rw [outB, List.getD_eq_getElem?_getD, List.getD_eq_getElem?_getD, List.getElem?_eq_getElem hn0, List.getElem?_eq_getElem hnl]
    rfl
  have w1 : IntKind.i64.wrap (((ps.length : Nat) : Int) - 1) = ((ps.length - 1 : Nat) : Int) := by rw [wrap64 (by omega) (by omega)]; omega
  have g0 : (ps.map encQ)[0 + (0 : Int).toNat]? = some (encQ ps[0]) := QL_at hn0
  have gl : (ps.map encQ)[0 + (IntKind.i64.wrap (((ps.length : Nat) : Int) - 1)).toNat]? = some (encQ ps[ps.length - 1]) := by rw [w1, Int.toNat_natCast, Nat.zero_add]; exact QL_at hnl
  have d0 := dps ps[0] (List.getElem_mem hn0)
  have dl := dps ps[ps.length - 1] (List.getElem_mem hnl)
  have c0 : (0 : Int) ≤ 0 ∧ (0 : Int) < ((ps.length : Nat) : Int) := ⟨by decide, by omega⟩
  have cl : (0 : Int) ≤ IntKind.i64.wrap (((ps.length : Nat) : Int) - 1) ∧ IntKind.i64.wrap (((ps.length : Nat) : Int) - 1) < ((ps.length : Nat) : Int) := by rw [w1]; omega
  have k1 := RCmp_t x ps[0] (k := 208) (by decide) (dsz dx (by decide)) (dsz d0 (by decide))
  have k2 := RCmp_t x ps[ps.length - 1] (k := 208) (by decide) (dsz dx (by decide)) (dsz dl (by decide))
  cases b1 : decide (cmpQ x ps[0] < 0) with
  | true =>
    rw [b1, Bool.true_or] at hO
    rw [hO] at hB
    repeat (first | refine wpg_skipc ?_ | refine wpg_next ?_ | refine wpg_blkout ?_)
    first | refine wpg_seq (wpg_region (id := 8) rfl ?_) | refine wpg_seq (wpg_seq (wpg_region (id := 8) rfl ?_)) | refine wpg_region (id := 8) rfl ?_ | refine wpg_seq (wpg_block rfl (wpg_seq (wpg_region (id := 8) rfl ?_))) | refine wpg_block rfl (wpg_seq (wpg_region (id := 8) rfl ?_))
    refine wpg_c rfl (fun _ => rfl) rfl rfl rfl ?_
    refine wpg_v rfl (fun _ => rfl) rfl rfl ?_
    refine wpg_c rfl (fun _ => rfl) c0 rfl rfl ?_
    refine wpg_x rfl (fun _ => rfl) g0 rfl rfl ?_
    refine wpg_op rfl ((k1).mono ?_)
    rintro _ rfl
    refine wpg_put rfl rfl ?_
    refine wpg_v rfl (fun _ => rfl) rfl rfl ?_
    refine wpg_v rfl (fun _ => rfl) rfl rfl ?_
    refine wpg_skip rfl rfl rfl b1 rfl rfl ?_
    refine wpg_skip rfl rfl rfl b1 rfl rfl ?_
    refine wpg_skip rfl rfl rfl b1 rfl rfl ?_
    refine wpg_skip rfl rfl rfl b1 rfl rfl ?_
    refine wpg_skip rfl rfl rfl b1 rfl rfl ?_
    refine wpg_skip rfl rfl rfl b1 rfl rfl ?_
    refine wpg_skip rfl rfl rfl b1 rfl rfl ?_
    refine wpg_skip rfl rfl rfl b1 rfl rfl ?_
    refine wpg_skip rfl rfl rfl b1 rfl rfl ?_
    refine wpg_pt rfl rfl rfl b1 rfl rfl rfl ?_
    refine wpg_nil ?_
    repeat (first | refine wpg_next ?_ | refine wpg_blkout ?_)
    refine And.intro (fun _ => ?_) (fun h => by first | (cases h; done) | exact (nf b1 h).elim)
    rw [hB]
    exact ⟨[], [], rfl⟩
  | false =>
    rw [b1, Bool.false_or] at hO
    cases b2 : decide (0 < cmpQ x ps[ps.length - 1]) with
    | true =>
      rw [b2] at hO
      rw [hO] at hB
      repeat (first | refine wpg_skipc ?_ | refine wpg_next ?_ | refine wpg_blkout ?_)
      first | refine wpg_seq (wpg_region (id := 8) rfl ?_) | refine wpg_seq (wpg_seq (wpg_region (id := 8) rfl ?_)) | refine wpg_region (id := 8) rfl ?_ | refine wpg_seq (wpg_block rfl (wpg_seq (wpg_region (id := 8) rfl ?_))) | refine wpg_block rfl (wpg_seq (wpg_region (id := 8) rfl ?_))
      refine wpg_c rfl (fun _ => rfl) rfl rfl rfl ?_
      refine wpg_v rfl (fun _ => rfl) rfl rfl ?_
      refine wpg_c rfl (fun _ => rfl) c0 rfl rfl ?_
      refine wpg_x rfl (fun _ => rfl) g0 rfl rfl ?_
      refine wpg_op rfl ((k1).mono ?_)
      rintro _ rfl
      refine wpg_put rfl rfl ?_
      refine wpg_v rfl (fun _ => rfl) rfl rfl ?_
      refine wpg_v rfl (fun _ => rfl) rfl rfl ?_
      refine wpg_cg rfl rfl rfl b1 (fun _ => rfl) rfl rfl rfl ?_
      refine wpg_vg rfl rfl rfl b1 (fun _ => rfl) rfl rfl ?_
      refine wpg_vg rfl rfl rfl b1 (fun _ => rfl) rfl rfl ?_
      refine wpg_vg rfl rfl rfl b1 (fun _ => rfl) rfl rfl ?_
      refine wpg_vg rfl rfl rfl b1 (fun _ => rfl) rfl rfl ?_
      refine wpg_cg rfl rfl rfl b1 (fun _ => rfl) cl rfl rfl ?_
      refine wpg_xg rfl rfl rfl b1 (fun _ => rfl) gl rfl rfl ?_
      refine wpg_run rfl rfl rfl b1 ((k2).mono ?_)
      rintro _ rfl
      refine wpg_put rfl rfl ?_
      refine wpg_vg rfl rfl rfl b1 (fun _ => rfl) rfl rfl ?_
      refine wpg_pf rfl rfl rfl b1 rfl rfl rfl ?_
      refine wpg_nil ?_
      repeat (first | refine wpg_next ?_ | refine wpg_blkout ?_)
      refine And.intro (fun _ => ?_) (fun h => by first | (cases h; done) | exact (nf b2 h).elim)
      rw [hB]
      exact ⟨[], [], rfl⟩
    | false =>
      rw [b2] at hO
      rw [hO] at hB
      repeat (first | refine wpg_skipc ?_ | refine wpg_next ?_ | refine wpg_blkout ?_)
      first | refine wpg_seq (wpg_region (id := 8) rfl ?_) | refine wpg_seq (wpg_seq (wpg_region (id := 8) rfl ?_)) | refine wpg_region (id := 8) rfl ?_ | refine wpg_seq (wpg_block rfl (wpg_seq (wpg_region (id := 8) rfl ?_))) | refine wpg_block rfl (wpg_seq (wpg_region (id := 8) rfl ?_))
      refine wpg_c rfl (fun _ => rfl) rfl rfl rfl ?_
      refine wpg_v rfl (fun _ => rfl) rfl rfl ?_
      refine wpg_c rfl (fun _ => rfl) c0 rfl rfl ?_
      refine wpg_x rfl (fun _ => rfl) g0 rfl rfl ?_
      refine wpg_op rfl ((k1).mono ?_)
      rintro _ rfl
      refine wpg_put rfl rfl ?_
      refine wpg_v rfl (fun _ => rfl) rfl rfl ?_
      refine wpg_v rfl (fun _ => rfl) rfl rfl ?_
      refine wpg_cg rfl rfl rfl b1 (fun _ => rfl) rfl rfl rfl ?_
      refine wpg_vg rfl rfl rfl b1 (fun _ => rfl) rfl rfl ?_
      refine wpg_vg rfl rfl rfl b1 (fun _ => rfl) rfl rfl ?_
      refine wpg_vg rfl rfl rfl b1 (fun _ => rfl) rfl rfl ?_
      refine wpg_vg rfl rfl rfl b1 (fun _ => rfl) rfl rfl ?_
      refine wpg_cg rfl rfl rfl b1 (fun _ => rfl) cl rfl rfl ?_
      refine wpg_xg rfl rfl rfl b1 (fun _ => rfl) gl rfl rfl ?_
      refine wpg_run rfl rfl rfl b1 ((k2).mono ?_)
      rintro _ rfl
      refine wpg_put rfl rfl ?_
      refine wpg_vg rfl rfl rfl b1 (fun _ => rfl) rfl rfl ?_
      refine wpg_pf rfl rfl rfl b1 rfl rfl rfl ?_
      refine wpg_nil ?_
      repeat (first | refine wpg_next ?_ | refine wpg_blkout ?_)
      refine And.intro (fun h => by first | (cases h; done) | exact (nf h b2).elim) (fun _ => ?_)
      rw [hB]
      refine (Whole_t 0 (by decide) (by decide)).mono ?_
      rintro _ rfl
      refine And.intro rfl ?_
      refine And.intro rfl ?_
      refine And.intro (show 0 + ps.length ≤ (ps.map encQ).length by simp) ?_
      refine (ltangents_t y ps n2 dy dps).mono ?_
      rintro _ ⟨ms, rfl, m1, m2⟩
      have hgm := fun i (h : i < ms.length) => encP_at (ms := ms) h
      have hlm : (ms.map encP).length = ms.length := List.length_map _
      obtain ⟨L, hL⟩ : ∃ l, ms.map encP = l := ⟨_, rfl⟩
      rw [hL] at hgm hlm ⊢
      refine loop_wp tys_ok rfl (fun (t : Nat × Rat) => [(11, .ref 0 0 ps.length none), (12, .ptr 1 0 0), (13, .ptr 2 0 0), (14, .ptr 3 0 0), (60, .v (.l pct) L), (61, .v (.i .i64) (L.length : Int)), (62, .v (.i .i64) (t.1 : Int))]) (fun t => [.row qct (ps.map encQ) false, cellQ x, cellQ y, cellQ t.2])
        (fun t => t.1 ≤ ms.length ∧ dz t.2 213) (fun t => ms.length - t.1) ?_ (0, 0) ?_ ?_
      · rintro ⟨i, S⟩ ⟨hi, hS⟩
        simp only at hi hS
        refine And.intro (fun h => ?_) (fun h => ?_)
        · have hlt : i < ms.length := by have h' : (i : Int) < (L.length : Int) := of_decide_eq_true h; omega
          have gx : L[(i : Int).toNat]? = some (encP ms[i]) := by rw [Int.toNat_natCast]; exact hgm i hlt
          have gm := m2 ms[i] (List.getElem_mem hlt)
          obtain ⟨⟨u, v⟩, huv⟩ : ∃ x, ms[i] = x := ⟨_, rfl⟩
          rw [huv] at gx gm
          have w2 : IntKind.i64.wrap ((i : Int) + 1) = ((i + 1 : Nat) : Int) := wrap64 (by omega) (by omega)
          have da := at_dz gm dx
          refine ⟨encP (u, v), Int.natCast_nonneg i, gx, ?_⟩
          refine And.intro rfl ?_
          refine And.intro rfl ?_
          refine And.intro rfl ?_
          refine (pat_t u v x gm.1 gm.2 dx).mono ?_
          rintro _ rfl
          refine And.intro rfl ?_
          refine And.intro rfl ?_
          refine And.intro rfl ?_
          refine (RCmp_t (u + v * x) S (k := 208) (by decide) (dsz da (by decide)) (dsz hS (by decide))).mono ?_
          rintro _ rfl
          refine And.intro (fun _ => ?_) (fun _ => ?_)
          · refine And.intro rfl ?_
            refine And.intro rfl ?_
            refine ⟨(i + 1, u + v * x), ⟨hlt, da⟩, by show ms.length - (i + 1) < ms.length - i; omega, ?_⟩
            refine ent_of rfl rfl ?_ ?_
            · exact ⟨⟨rfl, rfl, rfl⟩, ⟨rfl, rfl⟩, ⟨rfl, rfl⟩, ⟨rfl, rfl⟩, rfl, rfl, w2.symm, trivial⟩
            · exact ⟨⟨rfl, fun h => nomatch h⟩, ⟨⟨rfl, rfl, rfl, rfl, trivial⟩, fun _ => rfl⟩, ⟨⟨rfl, rfl, rfl, rfl, trivial⟩, fun _ => rfl⟩, ⟨⟨rfl, rfl, rfl, rfl, trivial⟩, fun _ => rfl⟩, trivial⟩
          · refine ⟨(i + 1, S), ⟨hlt, hS⟩, by show ms.length - (i + 1) < ms.length - i; omega, ?_⟩
            refine ent_of rfl rfl ?_ ?_
            · exact ⟨⟨rfl, rfl, rfl⟩, ⟨rfl, rfl⟩, ⟨rfl, rfl⟩, ⟨rfl, rfl⟩, rfl, rfl, w2.symm, trivial⟩
            · exact ⟨⟨rfl, fun h => nomatch h⟩, ⟨⟨rfl, rfl, rfl, rfl, trivial⟩, fun _ => rfl⟩, ⟨⟨rfl, rfl, rfl, rfl, trivial⟩, fun _ => rfl⟩, ⟨⟨rfl, rfl, rfl, rfl, trivial⟩, fun _ => rfl⟩, trivial⟩
        · have tS := ltext_t S
          rw [ratR_dz (by decide) hS] at tS
          refine loop_wp tys_ok rfl (fun (j : Nat) => [(11, .ref 0 0 ps.length none), (12, .ptr 1 0 0), (13, .ptr 2 0 0), (14, .ptr 3 0 0), (18, .v (.i .i64) ((j + 1 : Nat) : Int))]) (fun _ => [.row qct (ps.map encQ) false, cellQ x, cellQ y, cellQ S])
            (fun j => j + 1 < ps.length) (fun j => ps.length - j) ?_ 0 ?_ ?_
          · intro j hj
            have gx : (ps.map encQ)[0 + ((j + 1 : Nat) : Int).toNat]? = some (encQ ps[j + 1]) := by rw [Int.toNat_natCast, Nat.zero_add]; exact QL_at hj
            have gq := dps ps[j + 1] (List.getElem_mem hj)
            have cj : (0 : Int) ≤ ((j + 1 : Nat) : Int) ∧ ((j + 1 : Nat) : Int) < ((ps.length : Nat) : Int) := ⟨Int.natCast_nonneg _, by omega⟩
            refine And.intro cj ?_
            refine Exists.intro _ (And.intro gx ?_)
            refine And.intro rfl ?_
            refine (RCmp_t ps[j + 1] x (k := 208) (by decide) (dsz gq (by decide)) (dsz dx (by decide))).mono ?_
            rintro _ rfl
            refine And.intro (fun h => ?_) (fun h => ?_)
            · have h3 : cmpQ ps[j + 1] x < 0 := of_decide_eq_true h
              have hlt : j + 1 + 1 < ps.length := by
                rcases Nat.lt_or_ge (j + 1 + 1) ps.length with h | h
                · exact h
                · exfalso
                  have e : ps.length - 1 = j + 1 := by omega
                  have h4 : ¬ 0 < cmpQ x ps[ps.length - 1] := of_decide_eq_false b2
                  have h5 : ps[ps.length - 1] = ps[j + 1] := by congr 1
                  rw [h5, cmpQ_neg ps[j + 1] x] at h4
                  omega
              have w2 : IntKind.i64.wrap (((j + 1 : Nat) : Int) + 1) = ((j + 1 + 1 : Nat) : Int) := wrap64 (by omega) (by omega)
              refine ⟨j + 1, hlt, by show ps.length - (j + 1) < ps.length - j; omega, ?_⟩
              refine ent_of rfl rfl ?_ ?_
              · exact ⟨⟨rfl, rfl, rfl⟩, ⟨rfl, rfl⟩, ⟨rfl, rfl⟩, ⟨rfl, rfl⟩, w2.symm, trivial⟩
              · exact ⟨⟨rfl, fun h => nomatch h⟩, ⟨⟨rfl, rfl, rfl, rfl, trivial⟩, fun _ => rfl⟩, ⟨⟨rfl, rfl, rfl, rfl, trivial⟩, fun _ => rfl⟩, ⟨⟨rfl, rfl, rfl, rfl, trivial⟩, fun _ => rfl⟩, trivial⟩
            · have w3 : IntKind.i64.wrap (((j + 1 : Nat) : Int) - 1) = (j : Int) := by rw [wrap64 (by omega) (by omega)]; omega
              have cw : (0 : Int) ≤ IntKind.i64.wrap (((j + 1 : Nat) : Int) - 1) ∧ IntKind.i64.wrap (((j + 1 : Nat) : Int) - 1) < ((ps.length : Nat) : Int) := by rw [w3]; omega
              have gy : (ps.map encQ)[0 + (IntKind.i64.wrap (((j + 1 : Nat) : Int) - 1)).toNat]? = some (encQ (ps[j]'(by omega))) := by rw [w3, Int.toNat_natCast, Nat.zero_add]; exact QL_at (by omega)
              have gp := dps (ps[j]'(by omega)) (List.getElem_mem _)
              have gd := through_good dy gp gq
              have hT := through_t y (ps[j]'(by omega)) ps[j + 1] dy gp gq
              obtain ⟨⟨u, v⟩, huv⟩ : ∃ m, (-(y * (ps[j]'(by omega)) * ps[j + 1]), y * ((ps[j]'(by omega)) + ps[j + 1])) = m := ⟨_, rfl⟩
              rw [huv] at gd hT
              have tA := ltext_t (u + v * x)
              rw [ratR_dz (by decide) (at_dz gd dx)] at tA
              obtain ⟨Y, eY⟩ : ∃ Y, ratT (u + v * x) = Y := ⟨_, rfl⟩
              obtain ⟨Z, eZ⟩ : ∃ Y, ratT S = Y := ⟨_, rfl⟩
              rw [eY] at tA
              rw [eZ] at tS
              refine And.intro rfl ?_
              refine tS.mono ?_
              rintro _ rfl
              refine And.intro rfl ?_
              refine And.intro cw ?_
              refine Exists.intro _ (And.intro gy ?_)
              refine And.intro cj ?_
              refine Exists.intro _ (And.intro gx ?_)
              refine hT.mono ?_
              rintro _ rfl
              refine And.intro rfl ?_
              refine (pat_t u v x gd.1 gd.2 dx).mono ?_
              rintro _ rfl
              refine tA.mono ?_
              rintro _ rfl
              repeat (first | refine wpg_skipc ?_ | refine wpg_next ?_ | refine wpg_blkout ?_)
              first | refine wpg_seq (wpg_region (id := 23) rfl ?_) | refine wpg_seq (wpg_seq (wpg_region (id := 23) rfl ?_)) | refine wpg_region (id := 23) rfl ?_ | refine wpg_seq (wpg_block rfl (wpg_seq (wpg_region (id := 23) rfl ?_))) | refine wpg_block rfl (wpg_seq (wpg_region (id := 23) rfl ?_))
              refine wpg_v rfl (fun _ => rfl) rfl rfl ?_
              refine wpg_v rfl (fun _ => rfl) rfl rfl ?_
              refine wpg_v rfl (fun _ => rfl) rfl rfl ?_
              refine wpg_vg rfl rfl rfl rfl (fun _ => rfl) rfl rfl ?_
              refine wpg_vg rfl rfl rfl rfl (fun _ => rfl) rfl rfl ?_
              refine wpg_pf rfl rfl rfl rfl rfl rfl rfl ?_
              refine wpg_nil ?_
              repeat (first | refine wpg_next ?_ | refine wpg_blkout ?_)
              refine And.intro (fun h => by cases h) (fun _ => ?_)
              exact ⟨Z, Y, rfl⟩
          · show 0 + 1 < ps.length
            omega
          · refine ent_of rfl rfl ?_ ?_
            · exact ⟨⟨rfl, rfl, rfl⟩, ⟨rfl, rfl⟩, ⟨rfl, rfl⟩, ⟨rfl, rfl⟩, rfl, trivial⟩
            · exact ⟨⟨rfl, fun h => nomatch h⟩, ⟨⟨rfl, rfl, rfl, rfl, trivial⟩, fun _ => rfl⟩, ⟨⟨rfl, rfl, rfl, rfl, trivial⟩, fun _ => rfl⟩, ⟨⟨rfl, rfl, rfl, rfl, trivial⟩, fun _ => rfl⟩, trivial⟩
      · exact ⟨Nat.zero_le _, dz_mono (by decide) dz_zero⟩
      · refine ent_of rfl rfl ?_ ?_
        · exact ⟨⟨rfl, rfl, rfl⟩, ⟨rfl, rfl⟩, ⟨rfl, rfl⟩, ⟨rfl, rfl⟩, rfl, rfl, rfl, trivial⟩
        · exact ⟨⟨rfl, fun h => nomatch h⟩, ⟨⟨rfl, rfl, rfl, rfl, trivial⟩, fun _ => rfl⟩, ⟨⟨rfl, rfl, rfl, rfl, trivial⟩, fun _ => rfl⟩, ⟨⟨rfl, rfl, rfl, rfl, trivial⟩, fun _ => rfl⟩, trivial⟩
end Go.Proofs.YtnfgnkbgajhhbaaGreatDoor
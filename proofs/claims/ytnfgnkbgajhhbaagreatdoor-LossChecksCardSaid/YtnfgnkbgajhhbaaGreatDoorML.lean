/-
  The law LossChecks.
-/
import Derived.Test.YtnfgnkbgajhhbaaGreatDoorMB
import Derived.Test.YtnfgnkbgajhhbaaGreatDoorMC
import Derived.Test.YtnfgnkbgajhhbaaGreatDoorDm
set_option linter.constructorNameAsVariable false
set_option linter.unusedSimpArgs false
set_option linter.unusedVariables false
namespace Go.Proofs.YtnfgnkbgajhhbaaGreatDoor
open Go.Am Go.Tx Dv Go.Lib
set_option maxRecDepth 100000
theorem res_case {a : List UInt8} (ha : a.length ≤ 12) : (decide (ratErr a = 0) = false ∧ resE a = ratErr a) ∨ ∃ s : Int, ratErr a = 0 ∧ PureOK Tryz.prog hints 34 [.v .s a] (fun V => V = .v (.i .i64) s) ∧ resE a = match decide (s < 0) with | true => 4 | false => 0 := by
  by_cases h : ratErr a = 0
  · obtain ⟨q, rfl, hq⟩ := ratErr_zero h
    refine .inr ⟨q.num.sign, h, RatSign_t q (k := 12) (by decide) (dz_text ha (by decide)), ?_⟩
    have e : decide (q.num.sign < 0) = decide (q.num < 0) := decide_eq_decide.2 Int.sign_neg_iff
    rw [resE_ok hq, e]
    rfl
  · exact .inl ⟨decide_eq_false h, resE_err h⟩
theorem bnd_case {a : List UInt8} {l : List (List UInt8)} {f : List UInt8} (ha : a.length ≤ 12) (hl : ∀ x ∈ l, x.length ≤ 12) (hf : f.length ≤ 12) : (decide (fst2 (chkE a l) (ratErr f) = 0) = false ∧ bndE a l f = fst2 (chkE a l) (ratErr f)) ∨ ∃ (x y : List UInt8) (c d : Int), fst2 (chkE a l) (ratErr f) = 0 ∧ ((0 : Int) ≤ 0 ∧ l[(0 : Int).toNat]? = some x) ∧ (0 ≤ IntKind.i64.wrap ((l.length : Int) - 1) ∧ l[(IntKind.i64.wrap ((l.length : Int) - 1)).toNat]? = some y) ∧ PureOK Tryz.prog hints 44 [.v .s f, .v .s x] (fun V => V = .v (.i .i64) c) ∧ PureOK Tryz.prog hints 44 [.v .s f, .v .s y] (fun V => V = .v (.i .i64) d) ∧ bndE a l f = match decide (c < 0) || decide (0 < d) with | true => 4 | false => 0 := by
  have hB : bndE a l f = match decide (fst2 (chkE a l) (ratErr f) = 0) with | false => fst2 (chkE a l) (ratErr f) | true => match outB (qOf f) (l.map qOf) with | true => 4 | false => 0 := rfl
  by_cases h : fst2 (chkE a l) (ratErr f) = 0
  · rw [decide_eq_true h] at hB
    simp only at hB
    obtain ⟨h1, h2⟩ := fst2_zero h
    obtain ⟨p, ps, rfl, rfl, _, _, _, dps, n1, _⟩ := chk_zero ha hl h1
    obtain ⟨x, rfl, hx⟩ := ratErr_zero h2
    have dx := dz_text hf (by decide)
    have n0 : 0 < ps.length := by omega
    have nl : ps.length - 1 < ps.length := by omega
    have w1 : IntKind.i64.wrap (((ps.map ratT).length : Int) - 1) = ((ps.length - 1 : Nat) : Int) := by rw [List.length_map, wrap64 (by omega) (by omega)]; omega
    refine .inr ⟨ratT ps[0], ratT ps[ps.length - 1], cmpQ x ps[0], cmpQ x ps[ps.length - 1], h, ⟨Int.le_refl 0, ?_⟩, ?_, RatCmp_t x ps[0] (k := 12) (by decide) dx (dps _ (List.getElem_mem n0)), RatCmp_t x ps[ps.length - 1] (k := 12) (by decide) dx (dps _ (List.getElem_mem nl)), ?_⟩
    · show (ps.map ratT)[0]? = _
      rw [List.getElem?_map, List.getElem?_eq_getElem n0]
      rfl
    · rw [w1, Int.toNat_natCast, List.getElem?_map, List.getElem?_eq_getElem nl]
      exact ⟨by omega, rfl⟩
    · have hO : outB x ps = (decide (cmpQ x ps[0] < 0) || decide (0 < cmpQ x ps[ps.length - 1])) := by
        rw [outB, List.getD_eq_getElem?_getD, List.getD_eq_getElem?_getD, List.getElem?_eq_getElem n0, List.getElem?_eq_getElem nl]
        rfl
      obtain ⟨o, ho⟩ : ∃ o, (decide (cmpQ x ps[0] < 0) || decide (0 < cmpQ x ps[ps.length - 1])) = o := ⟨_, rfl⟩
      rw [ho] at hO ⊢
      rw [map_qOf, qOf_ratT, hO] at hB
      rw [hB]
  · rw [decide_eq_false h] at hB
    exact .inl ⟨decide_eq_false h, hB⟩
theorem sub_app (l : List (List UInt8)) (a f : List UInt8) : sub (sub l 0 l.length ++ a :: [f]) 0 (l.length + (1 + 1)) = l ++ [a, f] := by
  rw [sub_all l rfl]
  exact sub_all _ (by simp)
set_option maxHeartbeats 16000000 in
theorem LossChecks_l (a : List UInt8) (l : List (List UInt8)) (f : List UInt8) (ha : a.length ≤ 9223372036854775806) (hl : (∀ x ∈ l, x.length ≤ 9223372036854775806) ∧ l.length ≤ 8796093021952) (hf : f.length ≤ 9223372036854775806) : PureOK Tryz.prog hints 8 [.v .s a, .v (.l .s) l, .v .s f] (fun V => V = .v .b true) := by
  refine pure_rule (fn := Tryz.f8) (code := bodyOf Tryz.f8) tys_ok (by kernel_rfl) rfl Tryz.func8 (by kernel_rfl) (Nat.le_of_ble_eq_true (by kernel_rfl)) ?_
  obtain ⟨hl0, hlen⟩ := hl
  refine lossFact_t.mono ?_
  rintro _ rfl
  refine And.intro (fun h => nomatch h) (fun _ => ?_)
  refine (Clone_i l hlen).mono ?_
  rintro _ _ _ ⟨rfl, rfl, rfl⟩
  refine And.intro (show 0 + 2 ≤ 2 by decide) ?_
  refine And.intro (show 0 + l.length ≤ l.length by omega) ?_
  refine And.intro (show (l.length + (1 + 1)) * 16 ≤ 140737488355328 by omega) ?_
  have hs := sub_app l a f
  refine And.intro (show 0 + (l.length + (1 + 1)) ≤ (sub l 0 l.length ++ a :: [f]).length by rw [sub_all l rfl]; simp) ?_
  refine (containsL_t (sub (sub l 0 l.length ++ a :: [f]) 0 (l.length + (1 + 1))) (by rw [hs]; simp; omega)).mono ?_
  rintro _ rfl
  refine And.intro (fun _ => rfl) (fun h => ?_)
  have h' : longL 12 (sub (sub l 0 l.length ++ a :: [f]) 0 (l.length + (1 + 1))) = false := h
  rw [hs] at h'
  have hall := longL_all h'
  have hA : a.length ≤ 12 := by have := hall a (by simp); omega
  have hF : f.length ≤ 12 := by have := hall f (by simp); omega
  have hL : ∀ x ∈ l, x.length ≤ 12 := fun x hx => by have := hall x (List.mem_append_left _ hx); omega
  have kP := pointsError_t l hL
  have kA := RatError_t a ha
  have kF := RatError_t f hf
  have kX := ExactE_t a f hA hF
  have kT := Tangents_t a l hA hL
  have kC := Chords_t a l hA hL
  have kG := Gap_t a l hA hL
  have kB := Bounds_t a l f hA hL hF
  have kQ := Points_t l hl0
  have g1 := gfirst2_t (resE a) (ratErr f)
  have g2 : PureOK Tryz.prog hints _ _ (fun V => V = .v (.i .i64) (chkE a l)) := gfirst2_t (resE a) (ptsE l)
  have g3 := gfirst2_t (chkE a l) (ratErr f)
  have cA := res_case hA
  have cB := bnd_case hA hL hF
  obtain ⟨R, eR⟩ : ∃ x, resE a = x := ⟨_, rfl⟩
  obtain ⟨A, eA⟩ : ∃ x, ratErr a = x := ⟨_, rfl⟩
  obtain ⟨P, eP⟩ : ∃ x, ptsE l = x := ⟨_, rfl⟩
  obtain ⟨G, eG⟩ : ∃ x, ratErr f = x := ⟨_, rfl⟩
  obtain ⟨C, eC⟩ : ∃ x, chkE a l = x := ⟨_, rfl⟩
  obtain ⟨B, eB⟩ : ∃ x, bndE a l f = x := ⟨_, rfl⟩
  rw [eP] at kP kQ
  rw [eR, eG] at kX g1
  rw [eC] at kT kC kG g2
  rw [eC, eG] at g3 cB
  rw [eR, eP] at g2
  rw [eB] at kB cB
  rw [eA] at kA cA
  rw [eG] at kF
  rw [eR] at cA
  clear eR eA eP eG eC eB
  obtain ⟨X, eX⟩ : ∃ x, fst2 R G = x := ⟨_, rfl⟩
  obtain ⟨Y, eY⟩ : ∃ x, fst2 C G = x := ⟨_, rfl⟩
  rw [eX] at kX g1
  rw [eY] at g3 cB
  clear eX eY
  have hP := decide_eq_true (rfl : P = P)
  have hX := decide_eq_true (rfl : X = X)
  have hC := decide_eq_true (rfl : C = C)
  have hB := decide_eq_true (rfl : B = B)
  refine kP.mono ?_
  rintro _ rfl
  refine kA.mono ?_
  rintro _ rfl
  have cA3 : (decide (A = 0) = false ∧ R = A) ∨ (∃ s : Int, A = 0 ∧ PureOK Tryz.prog hints 34 [.v .s a] (fun V => V = .v (.i .i64) s) ∧ decide (s < 0) = true ∧ R = 4) ∨ (∃ s : Int, A = 0 ∧ PureOK Tryz.prog hints 34 [.v .s a] (fun V => V = .v (.i .i64) s) ∧ decide (s < 0) = false ∧ R = 0) := by
    rcases cA with h | ⟨s, h1, h2, h3⟩
    · exact .inl h
    · cases hs : decide (s < 0) with
      | true => rw [hs] at h3; exact .inr (.inl ⟨s, h1, h2, hs, h3⟩)
      | false => rw [hs] at h3; exact .inr (.inr ⟨s, h1, h2, hs, h3⟩)
  clear cA
  rcases cA3 with ⟨d, rfl⟩ | ⟨s, rfl, kS, d, rfl⟩ | ⟨s, rfl, kS, d, rfl⟩
  repeat (first | refine wpg_skipc ?_ | refine wpg_next ?_ | refine wpg_blkout ?_)
  first | refine wpg_seq (wpg_region (id := 7) rfl ?_) | refine wpg_seq (wpg_seq (wpg_region (id := 7) rfl ?_)) | refine wpg_region (id := 7) rfl ?_ | refine wpg_seq (wpg_block rfl (wpg_seq (wpg_region (id := 7) rfl ?_))) | refine wpg_block rfl (wpg_seq (wpg_region (id := 7) rfl ?_))
  refine wpg_v rfl (fun _ => rfl) rfl rfl ?_
  refine wpg_v rfl (fun _ => rfl) rfl rfl ?_
  refine wpg_v rfl (fun _ => rfl) rfl rfl ?_
  refine wpg_skip rfl rfl rfl d rfl rfl ?_
  refine wpg_skip rfl rfl rfl d rfl rfl ?_
  refine wpg_skip rfl rfl rfl d rfl rfl ?_
  refine wpg_pf rfl rfl rfl d rfl rfl rfl ?_
  refine wpg_nil ?_
  repeat (first | refine wpg_next ?_ | refine wpg_blkout ?_)
  refine And.intro (fun h => by cases h) (fun _ => ?_)
  rotate_left 1
  repeat (first | refine wpg_skipc ?_ | refine wpg_next ?_ | refine wpg_blkout ?_)
  first | refine wpg_seq (wpg_region (id := 7) rfl ?_) | refine wpg_seq (wpg_seq (wpg_region (id := 7) rfl ?_)) | refine wpg_region (id := 7) rfl ?_ | refine wpg_seq (wpg_block rfl (wpg_seq (wpg_region (id := 7) rfl ?_))) | refine wpg_block rfl (wpg_seq (wpg_region (id := 7) rfl ?_))
  refine wpg_v rfl (fun _ => rfl) rfl rfl ?_
  refine wpg_v rfl (fun _ => rfl) rfl rfl ?_
  refine wpg_v rfl (fun _ => rfl) rfl rfl ?_
  refine wpg_vg rfl rfl rfl rfl (fun _ => rfl) rfl rfl ?_
  refine wpg_run rfl rfl rfl rfl ((kS).mono ?_)
  rintro _ rfl
  refine wpg_put rfl rfl ?_
  refine wpg_vg rfl rfl rfl rfl (fun _ => rfl) rfl rfl ?_
  refine wpg_pt rfl rfl rfl rfl rfl rfl rfl ?_
  refine wpg_nil ?_
  repeat (first | refine wpg_next ?_ | refine wpg_blkout ?_)
  refine And.intro (fun _ => ?_) (fun h => by first | (cases h; done) | exact (nf d h).elim)
  rotate_left 1
  repeat (first | refine wpg_skipc ?_ | refine wpg_next ?_ | refine wpg_blkout ?_)
  first | refine wpg_seq (wpg_region (id := 7) rfl ?_) | refine wpg_seq (wpg_seq (wpg_region (id := 7) rfl ?_)) | refine wpg_region (id := 7) rfl ?_ | refine wpg_seq (wpg_block rfl (wpg_seq (wpg_region (id := 7) rfl ?_))) | refine wpg_block rfl (wpg_seq (wpg_region (id := 7) rfl ?_))
  refine wpg_v rfl (fun _ => rfl) rfl rfl ?_
  refine wpg_v rfl (fun _ => rfl) rfl rfl ?_
  refine wpg_v rfl (fun _ => rfl) rfl rfl ?_
  refine wpg_vg rfl rfl rfl rfl (fun _ => rfl) rfl rfl ?_
  refine wpg_run rfl rfl rfl rfl ((kS).mono ?_)
  rintro _ rfl
  refine wpg_put rfl rfl ?_
  refine wpg_vg rfl rfl rfl rfl (fun _ => rfl) rfl rfl ?_
  refine wpg_pt rfl rfl rfl rfl rfl rfl rfl ?_
  refine wpg_nil ?_
  repeat (first | refine wpg_next ?_ | refine wpg_blkout ?_)
  refine And.intro (fun h => by first | (cases h; done) | exact (nf h d).elim) (fun _ => ?_)
  rotate_left 1
  all_goals (
    refine kF.mono ?_
    rintro _ rfl
    refine And.intro (show 0 + 2 ≤ 2 by decide) ?_
    refine g1.mono ?_
    rintro _ rfl
    refine kX.mono ?_
    rintro _ ⟨X1, rfl⟩
    refine And.intro (show 0 + 2 ≤ 2 by decide) ?_
    refine g2.mono ?_
    rintro _ rfl
    refine kT.mono ?_
    rintro _ ⟨X2, rfl⟩
    refine kC.mono ?_
    rintro _ ⟨X3, rfl⟩
    refine kG.mono ?_
    rintro _ ⟨X4, rfl⟩
    refine kB.mono ?_
    rintro _ ⟨X5, X6, rfl⟩
    refine kF.mono ?_
    rintro _ rfl
    refine And.intro (show 0 + 2 ≤ 2 by decide) ?_
    refine g3.mono ?_
    rintro _ rfl
    have cc : (decide (Y = 0) = false ∧ B = Y) ∨ (∃ o p : Bool, Y = 0 ∧ ∃ (x y : List UInt8) (c d : Int), ((0 : Int) ≤ 0 ∧ l[(0 : Int).toNat]? = some x) ∧ (0 ≤ IntKind.i64.wrap ((l.length : Int) - 1) ∧ l[(IntKind.i64.wrap ((l.length : Int) - 1)).toNat]? = some y) ∧ PureOK Tryz.prog hints 44 [.v .s f, .v .s x] (fun V => V = .v (.i .i64) c) ∧ PureOK Tryz.prog hints 44 [.v .s f, .v .s y] (fun V => V = .v (.i .i64) d) ∧ decide (c < 0) = o ∧ decide (0 < d) = p ∧ B = match o || p with | true => 4 | false => 0) := by
      rcases cB with h | ⟨x, y, c, d, h, gx, gy, k1, k2, hO⟩
      · exact .inl h
      · exact .inr ⟨_, _, h, x, y, c, d, gx, gy, k1, k2, rfl, rfl, hO⟩
    rcases cc with ⟨d1, rfl⟩ | ⟨_ | _, _ | _, rfl, x, y, c, d, gx, gy, k1, k2, b1, b2, hO⟩
    repeat (first | refine wpg_skipc ?_ | refine wpg_next ?_ | refine wpg_blkout ?_)
    first | refine wpg_seq (wpg_region (id := 17) rfl ?_) | refine wpg_seq (wpg_seq (wpg_region (id := 17) rfl ?_)) | refine wpg_region (id := 17) rfl ?_ | refine wpg_seq (wpg_block rfl (wpg_seq (wpg_region (id := 17) rfl ?_))) | refine wpg_block rfl (wpg_seq (wpg_region (id := 17) rfl ?_))
    refine wpg_v rfl (fun _ => rfl) rfl rfl ?_
    refine wpg_v rfl (fun _ => rfl) rfl rfl ?_
    refine wpg_v rfl (fun _ => rfl) rfl rfl ?_
    refine wpg_skip rfl rfl rfl d1 rfl rfl ?_
    refine wpg_skip rfl rfl rfl d1 rfl rfl ?_
    refine wpg_skip rfl rfl rfl d1 rfl rfl ?_
    refine wpg_skip rfl rfl rfl d1 rfl rfl ?_
    refine wpg_skip rfl rfl rfl d1 rfl rfl ?_
    refine wpg_skip rfl rfl rfl d1 rfl rfl ?_
    refine wpg_skip rfl rfl rfl d1 rfl rfl ?_
    refine wpg_skipT rfl rfl rfl rfl rfl ?_
    refine wpg_skipT rfl rfl rfl rfl rfl ?_
    refine wpg_skipT rfl rfl rfl rfl rfl ?_
    refine wpg_skipT rfl rfl rfl rfl rfl ?_
    refine wpg_skipT rfl rfl rfl rfl rfl ?_
    refine wpg_skipT rfl rfl rfl rfl rfl ?_
    refine wpg_skipT rfl rfl rfl rfl rfl ?_
    refine wpg_skipT rfl rfl rfl rfl rfl ?_
    refine wpg_skipT rfl rfl rfl rfl rfl ?_
    refine wpg_skip rfl rfl rfl d1 rfl rfl ?_
    refine wpg_pf rfl rfl rfl d1 rfl rfl rfl ?_
    refine wpg_nil ?_
    repeat (first | refine wpg_next ?_ | refine wpg_blkout ?_)
    refine And.intro (fun h => by cases h) (fun _ => ?_)
    rotate_left 1
    repeat (first | refine wpg_skipc ?_ | refine wpg_next ?_ | refine wpg_blkout ?_)
    first | refine wpg_seq (wpg_region (id := 17) rfl ?_) | refine wpg_seq (wpg_seq (wpg_region (id := 17) rfl ?_)) | refine wpg_region (id := 17) rfl ?_ | refine wpg_seq (wpg_block rfl (wpg_seq (wpg_region (id := 17) rfl ?_))) | refine wpg_block rfl (wpg_seq (wpg_region (id := 17) rfl ?_))
    refine wpg_v rfl (fun _ => rfl) rfl rfl ?_
    refine wpg_v rfl (fun _ => rfl) rfl rfl ?_
    refine wpg_v rfl (fun _ => rfl) rfl rfl ?_
    refine wpg_vg rfl rfl rfl rfl (fun _ => rfl) rfl rfl ?_
    refine wpg_vg rfl rfl rfl rfl (fun _ => rfl) rfl rfl ?_
    refine wpg_yg rfl rfl rfl rfl (fun _ => rfl) gx.1 gx.2 rfl rfl ?_
    refine wpg_vg rfl rfl rfl rfl (fun _ => rfl) rfl rfl ?_
    refine wpg_run rfl rfl rfl rfl ((k1).mono ?_)
    rintro _ rfl
    refine wpg_put rfl rfl ?_
    refine wpg_vg rfl rfl rfl rfl (fun _ => rfl) rfl rfl ?_
    refine wpg_vg rfl rfl rfl rfl (fun _ => rfl) rfl rfl ?_
    refine wpg_vg rfl rfl rfl b1 (fun _ => rfl) rfl rfl ?_
    refine wpg_vg rfl rfl rfl b1 (fun _ => rfl) rfl rfl ?_
    refine wpg_vg rfl rfl rfl b1 (fun _ => rfl) rfl rfl ?_
    refine wpg_vg rfl rfl rfl b1 (fun _ => rfl) rfl rfl ?_
    refine wpg_vg rfl rfl rfl b1 (fun _ => rfl) rfl rfl ?_
    refine wpg_yg rfl rfl rfl b1 (fun _ => rfl) gy.1 gy.2 rfl rfl ?_
    refine wpg_vg rfl rfl rfl b1 (fun _ => rfl) rfl rfl ?_
    refine wpg_run rfl rfl rfl b1 ((k2).mono ?_)
    rintro _ rfl
    refine wpg_put rfl rfl ?_
    refine wpg_vg rfl rfl rfl b1 (fun _ => rfl) rfl rfl ?_
    refine wpg_pfg rfl rfl rfl rfl rfl rfl b1 rfl rfl rfl ?_
    refine wpg_pt rfl rfl rfl rfl rfl rfl rfl ?_
    refine wpg_nil ?_
    repeat (first | refine wpg_next ?_ | refine wpg_blkout ?_)
    refine And.intro (fun h => by first | (cases h; done) | exact (nf h b2).elim) (fun _ => ?_)
    obtain rfl : B = 0 := hO
    rotate_left 1
    repeat (first | refine wpg_skipc ?_ | refine wpg_next ?_ | refine wpg_blkout ?_)
    first | refine wpg_seq (wpg_region (id := 17) rfl ?_) | refine wpg_seq (wpg_seq (wpg_region (id := 17) rfl ?_)) | refine wpg_region (id := 17) rfl ?_ | refine wpg_seq (wpg_block rfl (wpg_seq (wpg_region (id := 17) rfl ?_))) | refine wpg_block rfl (wpg_seq (wpg_region (id := 17) rfl ?_))
    refine wpg_v rfl (fun _ => rfl) rfl rfl ?_
    refine wpg_v rfl (fun _ => rfl) rfl rfl ?_
    refine wpg_v rfl (fun _ => rfl) rfl rfl ?_
    refine wpg_vg rfl rfl rfl rfl (fun _ => rfl) rfl rfl ?_
    refine wpg_vg rfl rfl rfl rfl (fun _ => rfl) rfl rfl ?_
    refine wpg_yg rfl rfl rfl rfl (fun _ => rfl) gx.1 gx.2 rfl rfl ?_
    refine wpg_vg rfl rfl rfl rfl (fun _ => rfl) rfl rfl ?_
    refine wpg_run rfl rfl rfl rfl ((k1).mono ?_)
    rintro _ rfl
    refine wpg_put rfl rfl ?_
    refine wpg_vg rfl rfl rfl rfl (fun _ => rfl) rfl rfl ?_
    refine wpg_vg rfl rfl rfl rfl (fun _ => rfl) rfl rfl ?_
    refine wpg_vg rfl rfl rfl b1 (fun _ => rfl) rfl rfl ?_
    refine wpg_vg rfl rfl rfl b1 (fun _ => rfl) rfl rfl ?_
    refine wpg_vg rfl rfl rfl b1 (fun _ => rfl) rfl rfl ?_
    refine wpg_vg rfl rfl rfl b1 (fun _ => rfl) rfl rfl ?_
    refine wpg_vg rfl rfl rfl b1 (fun _ => rfl) rfl rfl ?_
    refine wpg_yg rfl rfl rfl b1 (fun _ => rfl) gy.1 gy.2 rfl rfl ?_
    refine wpg_vg rfl rfl rfl b1 (fun _ => rfl) rfl rfl ?_
    refine wpg_run rfl rfl rfl b1 ((k2).mono ?_)
    rintro _ rfl
    refine wpg_put rfl rfl ?_
    refine wpg_vg rfl rfl rfl b1 (fun _ => rfl) rfl rfl ?_
    refine wpg_pfg rfl rfl rfl rfl rfl rfl b1 rfl rfl rfl ?_
    refine wpg_pt rfl rfl rfl rfl rfl rfl rfl ?_
    refine wpg_nil ?_
    repeat (first | refine wpg_next ?_ | refine wpg_blkout ?_)
    refine And.intro (fun _ => ?_) (fun h => by first | (cases h; done) | exact (nf b2 h).elim)
    repeat (first | refine wpg_skipc ?_ | refine wpg_next ?_ | refine wpg_blkout ?_)
    first | refine wpg_seq (wpg_region (id := 18) rfl ?_) | refine wpg_seq (wpg_seq (wpg_region (id := 18) rfl ?_)) | refine wpg_region (id := 18) rfl ?_ | refine wpg_seq (wpg_block rfl (wpg_seq (wpg_region (id := 18) rfl ?_))) | refine wpg_block rfl (wpg_seq (wpg_region (id := 18) rfl ?_))
    refine wpg_v rfl (fun _ => rfl) rfl rfl ?_
    refine wpg_nil ?_
    repeat (first | refine wpg_next ?_ | refine wpg_blkout ?_)
    obtain rfl : B = 4 := hO
    rotate_left 1
    iterate 2
      repeat (first | refine wpg_skipc ?_ | refine wpg_next ?_ | refine wpg_blkout ?_)
      first | refine wpg_seq (wpg_region (id := 17) rfl ?_) | refine wpg_seq (wpg_seq (wpg_region (id := 17) rfl ?_)) | refine wpg_region (id := 17) rfl ?_ | refine wpg_seq (wpg_block rfl (wpg_seq (wpg_region (id := 17) rfl ?_))) | refine wpg_block rfl (wpg_seq (wpg_region (id := 17) rfl ?_))
      refine wpg_v rfl (fun _ => rfl) rfl rfl ?_
      refine wpg_v rfl (fun _ => rfl) rfl rfl ?_
      refine wpg_v rfl (fun _ => rfl) rfl rfl ?_
      refine wpg_vg rfl rfl rfl rfl (fun _ => rfl) rfl rfl ?_
      refine wpg_vg rfl rfl rfl rfl (fun _ => rfl) rfl rfl ?_
      refine wpg_yg rfl rfl rfl rfl (fun _ => rfl) gx.1 gx.2 rfl rfl ?_
      refine wpg_vg rfl rfl rfl rfl (fun _ => rfl) rfl rfl ?_
      refine wpg_run rfl rfl rfl rfl ((k1).mono ?_)
      rintro _ rfl
      refine wpg_put rfl rfl ?_
      refine wpg_vg rfl rfl rfl rfl (fun _ => rfl) rfl rfl ?_
      refine wpg_vg rfl rfl rfl rfl (fun _ => rfl) rfl rfl ?_
      refine wpg_skip rfl rfl rfl b1 rfl rfl ?_
      refine wpg_skip rfl rfl rfl b1 rfl rfl ?_
      refine wpg_skip rfl rfl rfl b1 rfl rfl ?_
      refine wpg_skip rfl rfl rfl b1 rfl rfl ?_
      refine wpg_skip rfl rfl rfl b1 rfl rfl ?_
      refine wpg_skip rfl rfl rfl b1 rfl rfl ?_
      refine wpg_skip rfl rfl rfl b1 rfl rfl ?_
      refine wpg_skip rfl rfl rfl b1 rfl rfl ?_
      refine wpg_skip rfl rfl rfl b1 rfl rfl ?_
      refine wpg_ptg rfl rfl rfl rfl rfl rfl b1 rfl rfl rfl ?_
      refine wpg_pt rfl rfl rfl rfl rfl rfl rfl ?_
      refine wpg_nil ?_
      repeat (first | refine wpg_next ?_ | refine wpg_blkout ?_)
      refine And.intro (fun _ => ?_) (fun h => by first | (cases h; done) | exact (nf b1 h).elim)
      repeat (first | refine wpg_skipc ?_ | refine wpg_next ?_ | refine wpg_blkout ?_)
      first | refine wpg_seq (wpg_region (id := 18) rfl ?_) | refine wpg_seq (wpg_seq (wpg_region (id := 18) rfl ?_)) | refine wpg_region (id := 18) rfl ?_ | refine wpg_seq (wpg_block rfl (wpg_seq (wpg_region (id := 18) rfl ?_))) | refine wpg_block rfl (wpg_seq (wpg_region (id := 18) rfl ?_))
      refine wpg_v rfl (fun _ => rfl) rfl rfl ?_
      refine wpg_nil ?_
      repeat (first | refine wpg_next ?_ | refine wpg_blkout ?_)
      obtain rfl : B = 4 := hO
      rotate_left 1
    all_goals
      repeat (first | refine wpg_skipc ?_ | refine wpg_next ?_ | refine wpg_blkout ?_)
      first | refine wpg_seq (wpg_region (id := 19) rfl ?_) | refine wpg_seq (wpg_seq (wpg_region (id := 19) rfl ?_)) | refine wpg_region (id := 19) rfl ?_ | refine wpg_seq (wpg_block rfl (wpg_seq (wpg_region (id := 19) rfl ?_))) | refine wpg_block rfl (wpg_seq (wpg_region (id := 19) rfl ?_))
      refine wpg_v rfl (fun _ => rfl) rfl rfl ?_
      refine wpg_op rfl ((kQ).mono ?_)
      rintro _ rfl
      refine wpg_put rfl rfl ?_
      refine wpg_v rfl (fun _ => rfl) rfl rfl ?_
      refine wpg_v rfl (fun _ => rfl) rfl rfl ?_
      refine wpg_v rfl (fun _ => rfl) rfl rfl ?_
      refine wpg_vg rfl rfl rfl hP (fun _ => rfl) rfl rfl ?_
      refine wpg_vg rfl rfl rfl hP (fun _ => rfl) rfl rfl ?_
      refine wpg_vg rfl rfl rfl hP (fun _ => rfl) rfl rfl ?_
      refine wpg_pt rfl rfl rfl hP rfl rfl rfl ?_
      refine wpg_v rfl (fun _ => rfl) rfl rfl ?_
      refine wpg_vg rfl rfl rfl hX (fun _ => rfl) rfl rfl ?_
      refine wpg_vg rfl rfl rfl hX (fun _ => rfl) rfl rfl ?_
      refine wpg_vg rfl rfl rfl hX (fun _ => rfl) rfl rfl ?_
      refine wpg_pt rfl rfl rfl hX rfl rfl rfl ?_
      refine wpg_v rfl (fun _ => rfl) rfl rfl ?_
      refine wpg_vg rfl rfl rfl hC (fun _ => rfl) rfl rfl ?_
      refine wpg_vg rfl rfl rfl hC (fun _ => rfl) rfl rfl ?_
      refine wpg_vg rfl rfl rfl hC (fun _ => rfl) rfl rfl ?_
      refine wpg_pt rfl rfl rfl hC rfl rfl rfl ?_
      refine wpg_v rfl (fun _ => rfl) rfl rfl ?_
      refine wpg_vg rfl rfl rfl hC (fun _ => rfl) rfl rfl ?_
      refine wpg_vg rfl rfl rfl hC (fun _ => rfl) rfl rfl ?_
      refine wpg_vg rfl rfl rfl hC (fun _ => rfl) rfl rfl ?_
      refine wpg_pt rfl rfl rfl hC rfl rfl rfl ?_
      refine wpg_v rfl (fun _ => rfl) rfl rfl ?_
      refine wpg_vg rfl rfl rfl hC (fun _ => rfl) rfl rfl ?_
      refine wpg_vg rfl rfl rfl hC (fun _ => rfl) rfl rfl ?_
      refine wpg_vg rfl rfl rfl hC (fun _ => rfl) rfl rfl ?_
      refine wpg_pt rfl rfl rfl hC rfl rfl rfl ?_
      refine wpg_v rfl (fun _ => rfl) rfl rfl ?_
      refine wpg_nil ?_
      repeat (first | refine wpg_next ?_ | refine wpg_blkout ?_)
      exact congrArg (SV.v .b) hB)
end Go.Proofs.YtnfgnkbgajhhbaaGreatDoor
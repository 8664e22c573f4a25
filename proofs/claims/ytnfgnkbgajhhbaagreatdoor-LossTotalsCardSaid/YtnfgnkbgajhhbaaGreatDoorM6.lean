/-
  The law LossTotals.
-/
import Derived.Test.YtnfgnkbgajhhbaaGreatDoorM3
import Derived.Test.YtnfgnkbgajhhbaaGreatDoorM4
import Derived.Test.YtnfgnkbgajhhbaaGreatDoorQ9
set_option linter.constructorNameAsVariable false
set_option linter.unusedSimpArgs false
set_option linter.unusedVariables false
namespace Go.Proofs.YtnfgnkbgajhhbaaGreatDoor
open Go.Am Go.Tx Dv Go.Lib
set_option maxRecDepth 100000
theorem vast_two (r f : List (List UInt8)) : PureOK Tryz.prog hints 19 [.v (.i .i64) 40, .v (.l (.l (.l .s))) [sub [r, f] 0 2]] (fun V => V = .v .b (vastM 40 [[r, f]])) := by
  refine vast_t 40 [[r, f]] (show 1 ≤ 1000 by decide) fun x hx h1 => ?_
  rcases List.mem_singleton.1 hx with rfl
  refine ⟨show 2 ≤ 1000 by decide, fun v hv h2 => ?_⟩
  omega
theorem vastM_two {r f : List (List UInt8)} (h : vastM 40 [[r, f]] = false) : (∀ a ∈ r, a.length ≤ 12) ∧ (∀ a ∈ f, a.length ≤ 12) := by
  have h1 := (vastM_all h [r, f] List.mem_cons_self).2
  have h2 := vastR_all h1
  refine ⟨fun a ha => ?_, fun a ha => ?_⟩
  · have := (h2 r List.mem_cons_self).2 a ha; omega
  · have := (h2 f (List.mem_cons_of_mem _ List.mem_cons_self)).2 a ha; omega
theorem exaR_pos {p q : Rat} (h : decide (p.num < 0) = false) : exaR p q = ratR (p * q * q) := by rw [exaR, h]
theorem ratR_dz {q : Rat} {k : Nat} (hk : k ≤ 2000) (h : dz q k) : ratR q = (ratT q, 0) := ratR_fit (dz_fit hk h)
theorem beq_self (s : List UInt8) : (s == s) = true := by simp
theorem dz_zero : dz 0 1 := ⟨dl_le (by decide) (by decide), dl_le (by decide) (by decide)⟩
theorem negB_all : ∀ {ps : List Rat}, negB ps = false → ∀ p ∈ ps, decide (p.num < 0) = false
  | [], _, _, h => absurd h List.not_mem_nil
  | q :: r, h, p, hp => by
    rw [negB] at h
    cases h1 : decide (q.num < 0) with
    | true => rw [h1] at h; cases h
    | false =>
      rw [h1] at h
      rcases List.mem_cons.1 hp with rfl | hp
      · exact h1
      · exact negB_all h p hp
theorem lossQ_dz : ∀ {ps qs : List Rat}, (∀ p ∈ ps, dz p 12) → (∀ q ∈ qs, dz q 12) → dz (lossQ ps qs) (37 * ps.length + 1)
  | [], _, _, _ => by rw [lossQ_nil]; exact dz_mono (by simp) dz_zero
  | p :: ps, [], _, _ => dz_mono (by simp) (show dz (lossQ (p :: ps) []) 1 from dz_zero)
  | p :: ps, q :: qs, h1, h2 => by
    rw [lossQ]
    have a1 := h1 p List.mem_cons_self
    have a2 := h2 q List.mem_cons_self
    have a3 := lossQ_dz (fun x hx => h1 x (List.mem_cons_of_mem _ hx)) (fun x hx => h2 x (List.mem_cons_of_mem _ hx))
    exact dz_mono (by rw [List.length_cons]; omega) (dz_add (dz_mul (dz_mul a1 a2) a2) a3)
set_option maxHeartbeats 8000000 in
theorem LossTotals_l (r f : List (List UInt8)) (hr : ∀ a ∈ r, a.length ≤ 9223372036854775806) (hf : ∀ a ∈ f, a.length ≤ 9223372036854775806) : PureOK Tryz.prog hints 7 [.v (.l .s) r, .v (.l .s) f] (fun V => V = .v .b true) := by
  refine pure_rule (fn := Tryz.f7) (code := bodyOf Tryz.f7) tys_ok (by kernel_rfl) rfl Tryz.func7 (by kernel_rfl) (Nat.le_of_ble_eq_true (by kernel_rfl)) ?_
  have cR := VecError_t r hr
  have cF := VecError_t f hf
  have hvst := vast_two r f
  refine lossFact_t.mono ?_
  rintro _ rfl
  refine And.intro (fun h => nomatch h) (fun _ => ?_)
  refine (Total_t r f hr hf).mono ?_
  rintro _ ⟨⟨X, e⟩, rfl, hT⟩
  refine cR.mono ?_
  rintro _ rfl
  refine cF.mono ?_
  rintro _ rfl
  refine And.intro (show 0 + 2 ≤ 2 by decide) ?_
  have cG := gfirst2_t (vecE r) (vecE f)
  obtain ⟨E, eE⟩ : ∃ x, fst2 (vecE r) (vecE f) = x := ⟨_, rfl⟩
  rw [eE] at cG
  refine cG.mono ?_
  rintro _ rfl
  have hEE := decide_eq_true (rfl : E = E)
  rcases hT with ⟨h0, hx⟩ | ⟨h0, hl, hx⟩ | ⟨h0, hl, ps, qs, hrp, hfq, hp, hq, hx⟩
  · rw [eE] at h0 hx
    cases hx
    have hE0 := decide_eq_false h0
    have hEn : (!decide (e = 0)) = true := by rw [hE0]; rfl
    repeat (first | refine wpg_skipc ?_ | refine wpg_next ?_ | refine wpg_blkout ?_)
    first | refine wpg_seq (wpg_region (id := 5) rfl ?_) | refine wpg_seq (wpg_seq (wpg_region (id := 5) rfl ?_)) | refine wpg_region (id := 5) rfl ?_ | refine wpg_seq (wpg_block rfl (wpg_seq (wpg_region (id := 5) rfl ?_))) | refine wpg_block rfl (wpg_seq (wpg_region (id := 5) rfl ?_))
    refine wpg_v rfl (fun _ => rfl) rfl rfl ?_
    refine wpg_v rfl (fun _ => rfl) rfl rfl ?_
    refine wpg_v rfl (fun _ => rfl) rfl rfl ?_
    refine wpg_skip rfl rfl rfl hE0 rfl rfl ?_
    refine wpg_skip rfl rfl rfl hE0 rfl rfl ?_
    refine wpg_skip rfl rfl rfl hE0 rfl rfl ?_
    refine wpg_skip rfl rfl rfl hE0 rfl rfl ?_
    refine wpg_skip rfl rfl rfl hE0 rfl rfl ?_
    refine wpg_pf rfl rfl rfl hE0 rfl rfl rfl ?_
    refine wpg_nil ?_
    repeat (first | refine wpg_next ?_ | refine wpg_blkout ?_)
    refine And.intro (fun h => by cases h) (fun _ => ?_)
    repeat (first | refine wpg_skipc ?_ | refine wpg_next ?_ | refine wpg_blkout ?_)
    first | refine wpg_seq (wpg_region (id := 7) rfl ?_) | refine wpg_seq (wpg_seq (wpg_region (id := 7) rfl ?_)) | refine wpg_region (id := 7) rfl ?_ | refine wpg_seq (wpg_block rfl (wpg_seq (wpg_region (id := 7) rfl ?_))) | refine wpg_block rfl (wpg_seq (wpg_region (id := 7) rfl ?_))
    refine wpg_v rfl (fun _ => rfl) rfl rfl ?_
    refine wpg_v rfl (fun _ => rfl) rfl rfl ?_
    refine wpg_v rfl (fun _ => rfl) rfl rfl ?_
    refine wpg_skip rfl rfl rfl hE0 rfl rfl ?_
    refine wpg_skip rfl rfl rfl hE0 rfl rfl ?_
    refine wpg_pf rfl rfl rfl hE0 rfl rfl rfl ?_
    refine wpg_nil ?_
    repeat (first | refine wpg_next ?_ | refine wpg_blkout ?_)
    refine And.intro (fun h => by cases h) (fun _ => ?_)
    refine And.intro (fun _ => ?_) (fun h => by first | (cases h; done) | exact (nf hEn h).elim)
    repeat (first | refine wpg_skipc ?_ | refine wpg_next ?_ | refine wpg_blkout ?_)
    first | refine wpg_seq (wpg_region (id := 10) rfl ?_) | refine wpg_seq (wpg_seq (wpg_region (id := 10) rfl ?_)) | refine wpg_region (id := 10) rfl ?_ | refine wpg_seq (wpg_block rfl (wpg_seq (wpg_region (id := 10) rfl ?_))) | refine wpg_block rfl (wpg_seq (wpg_region (id := 10) rfl ?_))
    refine wpg_v rfl (fun _ => rfl) rfl rfl ?_
    refine wpg_v rfl (fun _ => rfl) rfl rfl ?_
    refine wpg_v rfl (fun _ => rfl) rfl rfl ?_
    refine wpg_v rfl (fun _ => rfl) rfl rfl ?_
    refine wpg_vg rfl rfl rfl hEE (fun _ => rfl) rfl rfl ?_
    refine wpg_vg rfl rfl rfl hEE (fun _ => rfl) rfl rfl ?_
    refine wpg_pt rfl rfl rfl hEE rfl rfl rfl ?_
    refine wpg_v rfl (fun _ => rfl) rfl rfl ?_
    refine wpg_nil ?_
    repeat (first | refine wpg_next ?_ | refine wpg_blkout ?_)
    rfl
  · rw [eE] at h0
    subst h0
    cases hx
    have hne : (!decide ((r.length : Int) = (f.length : Int))) = true := by
      rw [decide_eq_false (fun h => hl (by omega))]
      rfl
    repeat (first | refine wpg_skipc ?_ | refine wpg_next ?_ | refine wpg_blkout ?_)
    first | refine wpg_seq (wpg_region (id := 5) rfl ?_) | refine wpg_seq (wpg_seq (wpg_region (id := 5) rfl ?_)) | refine wpg_region (id := 5) rfl ?_ | refine wpg_seq (wpg_block rfl (wpg_seq (wpg_region (id := 5) rfl ?_))) | refine wpg_block rfl (wpg_seq (wpg_region (id := 5) rfl ?_))
    refine wpg_v rfl (fun _ => rfl) rfl rfl ?_
    refine wpg_v rfl (fun _ => rfl) rfl rfl ?_
    refine wpg_v rfl (fun _ => rfl) rfl rfl ?_
    refine wpg_vg rfl rfl rfl rfl (fun _ => rfl) rfl rfl ?_
    refine wpg_vg rfl rfl rfl rfl (fun _ => rfl) rfl rfl ?_
    refine wpg_vg rfl rfl rfl rfl (fun _ => rfl) rfl rfl ?_
    refine wpg_vg rfl rfl rfl rfl (fun _ => rfl) rfl rfl ?_
    refine wpg_vg rfl rfl rfl rfl (fun _ => rfl) rfl rfl ?_
    refine wpg_pt rfl rfl rfl rfl rfl rfl rfl ?_
    refine wpg_nil ?_
    repeat (first | refine wpg_next ?_ | refine wpg_blkout ?_)
    refine And.intro (fun _ => ?_) (fun h => by first | (cases h; done) | exact (nf hne h).elim)
    repeat (first | refine wpg_skipc ?_ | refine wpg_next ?_ | refine wpg_blkout ?_)
    first | refine wpg_seq (wpg_region (id := 6) rfl ?_) | refine wpg_seq (wpg_seq (wpg_region (id := 6) rfl ?_)) | refine wpg_region (id := 6) rfl ?_ | refine wpg_seq (wpg_block rfl (wpg_seq (wpg_region (id := 6) rfl ?_))) | refine wpg_block rfl (wpg_seq (wpg_region (id := 6) rfl ?_))
    refine wpg_v rfl (fun _ => rfl) rfl rfl ?_
    refine wpg_nil ?_
    repeat (first | refine wpg_next ?_ | refine wpg_blkout ?_)
    repeat (first | refine wpg_skipc ?_ | refine wpg_next ?_ | refine wpg_blkout ?_)
    first | refine wpg_seq (wpg_region (id := 7) rfl ?_) | refine wpg_seq (wpg_seq (wpg_region (id := 7) rfl ?_)) | refine wpg_region (id := 7) rfl ?_ | refine wpg_seq (wpg_block rfl (wpg_seq (wpg_region (id := 7) rfl ?_))) | refine wpg_block rfl (wpg_seq (wpg_region (id := 7) rfl ?_))
    refine wpg_v rfl (fun _ => rfl) rfl rfl ?_
    refine wpg_v rfl (fun _ => rfl) rfl rfl ?_
    refine wpg_v rfl (fun _ => rfl) rfl rfl ?_
    refine wpg_skip rfl rfl rfl rfl rfl rfl ?_
    refine wpg_skip rfl rfl rfl rfl rfl rfl ?_
    refine wpg_pf rfl rfl rfl rfl rfl rfl rfl ?_
    refine wpg_nil ?_
    repeat (first | refine wpg_next ?_ | refine wpg_blkout ?_)
    refine And.intro (fun h => by cases h) (fun _ => ?_)
    refine And.intro (fun _ => ?_) (fun h => by cases h)
    repeat (first | refine wpg_skipc ?_ | refine wpg_next ?_ | refine wpg_blkout ?_)
    first | refine wpg_seq (wpg_region (id := 10) rfl ?_) | refine wpg_seq (wpg_seq (wpg_region (id := 10) rfl ?_)) | refine wpg_region (id := 10) rfl ?_ | refine wpg_seq (wpg_block rfl (wpg_seq (wpg_region (id := 10) rfl ?_))) | refine wpg_block rfl (wpg_seq (wpg_region (id := 10) rfl ?_))
    refine wpg_v rfl (fun _ => rfl) rfl rfl ?_
    refine wpg_v rfl (fun _ => rfl) rfl rfl ?_
    refine wpg_v rfl (fun _ => rfl) rfl rfl ?_
    refine wpg_v rfl (fun _ => rfl) rfl rfl ?_
    refine wpg_vg rfl rfl rfl rfl (fun _ => rfl) rfl rfl ?_
    refine wpg_vg rfl rfl rfl rfl (fun _ => rfl) rfl rfl ?_
    refine wpg_pt rfl rfl rfl rfl rfl rfl rfl ?_
    refine wpg_v rfl (fun _ => rfl) rfl rfl ?_
    refine wpg_nil ?_
    repeat (first | refine wpg_next ?_ | refine wpg_blkout ?_)
    rfl
  · rw [eE] at h0
    subst h0
    have hne : (!decide ((r.length : Int) = (f.length : Int))) = false := by
      rw [decide_eq_true (by omega)]
      rfl
    have r40 : r.length ≤ 40 := by
      obtain ⟨z1, _⟩ := fst2_zero eE
      exact (vecE_zero z1).1
    have hll : r.length = ps.length := by rw [hrp, List.length_map]
    have hlq : f.length = qs.length := by rw [hfq, List.length_map]
    have hcn := containsN_t ps (by omega) hp
    rw [← hrp] at hcn
    have hgp : ∀ i (h : i < ps.length), r[i]? = some (ratT ps[i]) := fun i h => by
      rw [hrp, List.getElem?_map, List.getElem?_eq_getElem h]
      rfl
    have hgq : ∀ i (h : i < qs.length), f[i]? = some (ratT qs[i]) := fun i h => by
      rw [hfq, List.getElem?_map, List.getElem?_eq_getElem h]
      rfl
    have hmp : ∀ p ∈ ps, ratT p ∈ r := fun p h => by rw [hrp]; exact List.mem_map_of_mem h
    have hmq : ∀ p ∈ qs, ratT p ∈ f := fun p h => by rw [hfq]; exact List.mem_map_of_mem h
    have hx2 : (X, e) = match negB ps with | true => ([], 4) | false => ratR (lossQ ps qs) := hx
    repeat (first | refine wpg_skipc ?_ | refine wpg_next ?_ | refine wpg_blkout ?_)
    first | refine wpg_seq (wpg_region (id := 5) rfl ?_) | refine wpg_seq (wpg_seq (wpg_region (id := 5) rfl ?_)) | refine wpg_region (id := 5) rfl ?_ | refine wpg_seq (wpg_block rfl (wpg_seq (wpg_region (id := 5) rfl ?_))) | refine wpg_block rfl (wpg_seq (wpg_region (id := 5) rfl ?_))
    refine wpg_v rfl (fun _ => rfl) rfl rfl ?_
    refine wpg_v rfl (fun _ => rfl) rfl rfl ?_
    refine wpg_v rfl (fun _ => rfl) rfl rfl ?_
    refine wpg_vg rfl rfl rfl rfl (fun _ => rfl) rfl rfl ?_
    refine wpg_vg rfl rfl rfl rfl (fun _ => rfl) rfl rfl ?_
    refine wpg_vg rfl rfl rfl rfl (fun _ => rfl) rfl rfl ?_
    refine wpg_vg rfl rfl rfl rfl (fun _ => rfl) rfl rfl ?_
    refine wpg_vg rfl rfl rfl rfl (fun _ => rfl) rfl rfl ?_
    refine wpg_pt rfl rfl rfl rfl rfl rfl rfl ?_
    refine wpg_nil ?_
    repeat (first | refine wpg_next ?_ | refine wpg_blkout ?_)
    refine And.intro (fun h => by first | (cases h; done) | exact (nf h hne).elim) (fun _ => ?_)
    cases hn : negB ps with
    | true =>
      rw [hn] at hx2 hcn
      cases hx2
      repeat (first | refine wpg_skipc ?_ | refine wpg_next ?_ | refine wpg_blkout ?_)
      first | refine wpg_seq (wpg_region (id := 7) rfl ?_) | refine wpg_seq (wpg_seq (wpg_region (id := 7) rfl ?_)) | refine wpg_region (id := 7) rfl ?_ | refine wpg_seq (wpg_block rfl (wpg_seq (wpg_region (id := 7) rfl ?_))) | refine wpg_block rfl (wpg_seq (wpg_region (id := 7) rfl ?_))
      refine wpg_v rfl (fun _ => rfl) rfl rfl ?_
      refine wpg_v rfl (fun _ => rfl) rfl rfl ?_
      refine wpg_v rfl (fun _ => rfl) rfl rfl ?_
      refine wpg_vg rfl rfl rfl rfl (fun _ => rfl) rfl rfl ?_
      refine wpg_run rfl rfl rfl rfl ((hcn).mono ?_)
      rintro _ rfl
      refine wpg_put rfl rfl ?_
      refine wpg_pt rfl rfl rfl rfl rfl rfl rfl ?_
      refine wpg_nil ?_
      repeat (first | refine wpg_next ?_ | refine wpg_blkout ?_)
      refine And.intro (fun _ => ?_) (fun h => by cases h)
      repeat (first | refine wpg_skipc ?_ | refine wpg_next ?_ | refine wpg_blkout ?_)
      first | refine wpg_seq (wpg_region (id := 8) rfl ?_) | refine wpg_seq (wpg_seq (wpg_region (id := 8) rfl ?_)) | refine wpg_region (id := 8) rfl ?_ | refine wpg_seq (wpg_block rfl (wpg_seq (wpg_region (id := 8) rfl ?_))) | refine wpg_block rfl (wpg_seq (wpg_region (id := 8) rfl ?_))
      refine wpg_v rfl (fun _ => rfl) rfl rfl ?_
      refine wpg_nil ?_
      repeat (first | refine wpg_next ?_ | refine wpg_blkout ?_)
      refine And.intro (fun _ => ?_) (fun h => by cases h)
      repeat (first | refine wpg_skipc ?_ | refine wpg_next ?_ | refine wpg_blkout ?_)
      first | refine wpg_seq (wpg_region (id := 10) rfl ?_) | refine wpg_seq (wpg_seq (wpg_region (id := 10) rfl ?_)) | refine wpg_region (id := 10) rfl ?_ | refine wpg_seq (wpg_block rfl (wpg_seq (wpg_region (id := 10) rfl ?_))) | refine wpg_block rfl (wpg_seq (wpg_region (id := 10) rfl ?_))
      refine wpg_v rfl (fun _ => rfl) rfl rfl ?_
      refine wpg_v rfl (fun _ => rfl) rfl rfl ?_
      refine wpg_v rfl (fun _ => rfl) rfl rfl ?_
      refine wpg_v rfl (fun _ => rfl) rfl rfl ?_
      refine wpg_vg rfl rfl rfl rfl (fun _ => rfl) rfl rfl ?_
      refine wpg_vg rfl rfl rfl rfl (fun _ => rfl) rfl rfl ?_
      refine wpg_pt rfl rfl rfl rfl rfl rfl rfl ?_
      refine wpg_v rfl (fun _ => rfl) rfl rfl ?_
      refine wpg_nil ?_
      repeat (first | refine wpg_next ?_ | refine wpg_blkout ?_)
      rfl
    | false =>
      rw [hn] at hx2 hcn
      repeat (first | refine wpg_skipc ?_ | refine wpg_next ?_ | refine wpg_blkout ?_)
      first | refine wpg_seq (wpg_region (id := 7) rfl ?_) | refine wpg_seq (wpg_seq (wpg_region (id := 7) rfl ?_)) | refine wpg_region (id := 7) rfl ?_ | refine wpg_seq (wpg_block rfl (wpg_seq (wpg_region (id := 7) rfl ?_))) | refine wpg_block rfl (wpg_seq (wpg_region (id := 7) rfl ?_))
      refine wpg_v rfl (fun _ => rfl) rfl rfl ?_
      refine wpg_v rfl (fun _ => rfl) rfl rfl ?_
      refine wpg_v rfl (fun _ => rfl) rfl rfl ?_
      refine wpg_vg rfl rfl rfl rfl (fun _ => rfl) rfl rfl ?_
      refine wpg_run rfl rfl rfl rfl ((hcn).mono ?_)
      rintro _ rfl
      refine wpg_put rfl rfl ?_
      refine wpg_pt rfl rfl rfl rfl rfl rfl rfl ?_
      refine wpg_nil ?_
      repeat (first | refine wpg_next ?_ | refine wpg_blkout ?_)
      refine And.intro (fun h => by cases h) (fun _ => ?_)
      refine And.intro (fun h => by cases h) (fun _ => ?_)
      refine And.intro (show 0 + 1 ≤ 1 by decide) ?_
      refine And.intro (show 0 + 2 ≤ 2 by decide) ?_
      refine hvst.mono ?_
      rintro _ rfl
      cases hv : vastM 40 [[r, f]] with
      | true =>
        refine And.intro (fun _ => ?_) (fun h => by cases h)
        rfl
      | false =>
      refine And.intro (fun h => by cases h) (fun _ => ?_)
      obtain ⟨l1, l2⟩ := vastM_two hv
      have dp : ∀ p ∈ ps, dz p 12 := fun p h => dz_text (l1 _ (hmp p h)) (by decide)
      have dq : ∀ q ∈ qs, dz q 12 := fun p h => dz_text (l2 _ (hmq p h)) (by decide)
      have dS : dz (lossQ ps qs) 2000 := dz_mono (by omega) (lossQ_dz dp dq)
      have hX : ratR (lossQ ps qs) = (ratT (lossQ ps qs), 0) := ratR_dz (by decide) dS
      simp only at hx2
      rw [hX] at hx2
      cases hx2
      refine loop_wp tys_ok rfl (fun (t : Nat × Rat) => [(0, .v (.l .s) r), (1, .v (.l .s) f), (5, .v .s (ratT (lossQ ps qs))), (6, .v (.i .i64) 0), (8, .v .s (ratT t.2)), (57, .v (.l .s) r), (58, .v (.i .i64) (r.length : Int)), (59, .v (.i .i64) (t.1 : Int))]) (fun _ => [])
        (fun t => t.1 ≤ ps.length ∧ dz t.2 (37 * t.1 + 1) ∧ t.2 + lossQ (ps.drop t.1) (qs.drop t.1) = lossQ ps qs) (fun t => ps.length - t.1) ?_ (0, 0) ?_ ?_
      · rintro ⟨i, S⟩ ⟨hi, hS, he⟩
        simp only at hi hS he
        refine And.intro (fun h => ?_) (fun h => ?_)
        · have hlt : i < ps.length := by have h' : (i : Int) < (r.length : Int) := of_decide_eq_true h; omega
          have hlt2 : i < qs.length := by omega
          rw [lossQ_step hlt hlt2] at he
          have gp : r[(i : Int).toNat]? = some (ratT ps[i]) := by rw [Int.toNat_natCast]; exact hgp i hlt
          have gq : f[(i : Int).toNat]? = some (ratT qs[i]) := by rw [Int.toNat_natCast]; exact hgq i hlt2
          have fp := hp ps[i] (List.getElem_mem hlt)
          have fq := hq qs[i] (List.getElem_mem hlt2)
          have d1 := dp ps[i] (List.getElem_mem hlt)
          have d2 := dq qs[i] (List.getElem_mem hlt2)
          have np := negB_all hn ps[i] (List.getElem_mem hlt)
          obtain ⟨p, hp0⟩ : ∃ x, ps[i] = x := ⟨_, rfl⟩
          obtain ⟨q, hq0⟩ : ∃ x, qs[i] = x := ⟨_, rfl⟩
          rw [hp0] at gp fp d1 np he
          rw [hq0] at gq fq d2 he
          have d3 := dz_mul d2 d2
          have d4 := dz_mul (dz_mul d1 d2) d2
          have hEx := Exact_ok p q fp fq
          rw [exaR_pos np, ratR_dz (by decide) (dz_mono (show 36 ≤ 2000 by decide) d4)] at hEx
          have ha : p * (q * q) = p * q * q := (Rat.mul_assoc p q q).symm
          have wi : IntKind.i64.wrap ((i : Int) + 1) = ((i + 1 : Nat) : Int) := wrap64 (by omega) (by omega)
          refine ⟨ratT p, Int.natCast_nonneg i, gp, ?_⟩
          refine ⟨ratT q, Int.natCast_nonneg i, gq, ?_⟩
          refine hEx.mono ?_
          rintro _ rfl
          refine ⟨ratT q, Int.natCast_nonneg i, gq, ?_⟩
          refine ⟨ratT q, Int.natCast_nonneg i, gq, ?_⟩
          refine (RatMul_t q q (by decide : 12 ≤ 40000) d2 d2).mono ?_
          rintro _ rfl
          have hM := RatMul_t p (q * q) (by decide : 24 ≤ 40000) (dz_mono (by decide) d1) d3
          rw [ha] at hM
          refine hM.mono ?_
          rintro _ rfl
          have bX := beq_self (ratT (p * q * q))
          have bN : (!(ratT (p * q * q) == ratT (p * q * q))) = false := by rw [bX]; rfl
          have hA := RatAdd_t S (p * q * q) (k := 2000) (by decide) (dz_mono (by omega) hS) (dz_mono (by decide) d4)
          obtain ⟨Y, eY⟩ : ∃ x, ratT (p * q * q) = x := ⟨_, rfl⟩
          rw [eY] at hA bN ⊢
          repeat (first | refine wpg_skipc ?_ | refine wpg_next ?_ | refine wpg_blkout ?_)
          first | refine wpg_seq (wpg_region (id := 19) rfl ?_) | refine wpg_seq (wpg_seq (wpg_region (id := 19) rfl ?_)) | refine wpg_region (id := 19) rfl ?_ | refine wpg_seq (wpg_block rfl (wpg_seq (wpg_region (id := 19) rfl ?_))) | refine wpg_block rfl (wpg_seq (wpg_region (id := 19) rfl ?_))
          refine wpg_v rfl (fun _ => rfl) rfl rfl ?_
          refine wpg_v rfl (fun _ => rfl) rfl rfl ?_
          refine wpg_v rfl (fun _ => rfl) rfl rfl ?_
          refine wpg_vg rfl rfl rfl rfl (fun _ => rfl) rfl rfl ?_
          refine wpg_vg rfl rfl rfl rfl (fun _ => rfl) rfl rfl ?_
          refine wpg_vg rfl rfl rfl rfl (fun _ => rfl) rfl rfl ?_
          refine wpg_pf rfl rfl rfl rfl rfl rfl rfl ?_
          refine wpg_nil ?_
          repeat (first | refine wpg_next ?_ | refine wpg_blkout ?_)
          refine And.intro (fun h => by first | (cases h; done) | exact (nf h bN).elim) (fun _ => ?_)
          refine hA.mono ?_
          rintro _ rfl
          refine ⟨(i + 1, S + p * q * q), ⟨hlt, dz_mono (by show 37 * i + 1 + (12 + 12 + 12) + 1 ≤ 37 * (i + 1) + 1; omega) (dz_add hS d4), by rw [← he, Rat.add_assoc]⟩, by show ps.length - (i + 1) < ps.length - i; omega, ?_⟩
          refine ent_of rfl rfl ?_ ?_
          · exact ⟨rfl, rfl, rfl, rfl, rfl, rfl, rfl, wi.symm, trivial⟩
          · exact trivial
        · have hi2 : i = ps.length := by have h' : ¬ (i : Int) < (r.length : Int) := of_decide_eq_false h; omega
          rw [hi2, List.drop_length, lossQ_nil, Rat.add_zero] at he
          rw [← he]
          have bX := beq_self (ratT S)
          repeat (first | refine wpg_skipc ?_ | refine wpg_next ?_ | refine wpg_blkout ?_)
          first | refine wpg_seq (wpg_region (id := 23) rfl ?_) | refine wpg_seq (wpg_seq (wpg_region (id := 23) rfl ?_)) | refine wpg_region (id := 23) rfl ?_ | refine wpg_seq (wpg_block rfl (wpg_seq (wpg_region (id := 23) rfl ?_))) | refine wpg_block rfl (wpg_seq (wpg_region (id := 23) rfl ?_))
          refine wpg_v rfl (fun _ => rfl) rfl rfl ?_
          refine wpg_v rfl (fun _ => rfl) rfl rfl ?_
          refine wpg_v rfl (fun _ => rfl) rfl rfl ?_
          refine wpg_vg rfl rfl rfl rfl (fun _ => rfl) rfl rfl ?_
          refine wpg_vg rfl rfl rfl rfl (fun _ => rfl) rfl rfl ?_
          refine wpg_vg rfl rfl rfl rfl (fun _ => rfl) rfl rfl ?_
          refine wpg_pt rfl rfl rfl rfl rfl rfl rfl ?_
          refine wpg_v rfl (fun _ => rfl) rfl rfl ?_
          refine wpg_nil ?_
          repeat (first | refine wpg_next ?_ | refine wpg_blkout ?_)
          show SV.v .b (ratT S == ratT S) = _
          rw [bX]
      · refine ⟨Nat.zero_le _, dz_zero, ?_⟩
        show (0 : Rat) + lossQ (ps.drop 0) (qs.drop 0) = _
        rw [Rat.zero_add]
        rfl
      · refine ent_of rfl rfl ?_ ?_
        · exact ⟨rfl, rfl, rfl, rfl, by rw [ratT_zero]; rfl, rfl, rfl, rfl, trivial⟩
        · exact trivial
end Go.Proofs.YtnfgnkbgajhhbaaGreatDoor

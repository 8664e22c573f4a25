import Derived.Test.YtcclbkkgpcpikaaG6
set_option linter.unusedSimpArgs false
set_option linter.unusedVariables false
namespace Go.Proofs.Ytcclbkkgpcpikaa
open Go.Am
set_option maxRecDepth 100000
theorem Sl_tup {q : PV} {es : List (List PV)} (hq : Sl q es) : noTup q = some q ∧ cellsOf q = [q] := by
  rcases hq with ⟨rfl, _⟩ | rfl <;> exact ⟨rfl, rfl⟩
theorem lens {n : Net} {q0 q1 q2 q3 q4 q5 : PV} (hq : NetQ n q0 q1 q2 q3 q4 q5) (H : List Mem) : lenPV Try.prog H 41 q0 = some (.int .i64 n.nodes.length) ∧ lenPV Try.prog H 42 q1 = some (.int .i64 n.sw.length) ∧ lenPV Try.prog H 43 q2 = some (.int .i64 n.br.length) ∧ lenPV Try.prog H 44 q3 = some (.int .i64 n.gn.length) ∧ lenPV Try.prog H 45 q4 = some (.int .i64 n.ld.length) ∧ lenPV Try.prog H 46 q5 = some (.int .i64 n.so.length) := by
  have h0 := len_sl (P := Try.prog) (H := H) hq.h0 slZ41
  have h1 := len_sl (P := Try.prog) (H := H) hq.h1 slZ42
  have h2 := len_sl (P := Try.prog) (H := H) hq.h2 slZ43
  have h3 := len_sl (P := Try.prog) (H := H) hq.h3 slZ44
  have h4 := len_sl (P := Try.prog) (H := H) hq.h4 slZ45
  have h5 := len_sl (P := Try.prog) (H := H) hq.h5 slZ46
  rw [List.length_map] at h0 h1 h2 h3 h4 h5
  exact ⟨h0, h1, h2, h3, h4, h5⟩
set_option maxHeartbeats 4000000 in
theorem ends_run (n : Net) (q0 q1 q2 q3 q4 q5 : PV) (hq : NetQ n q0 q1 q2 q3 q4 q5) (hn24 : n.nodes.length ≤ 24) (hg : n.gn.length ≤ 10) (hld : n.ld.length ≤ 12) (hso : n.so.length ≤ 4) (H : List Mem) (mid : Nat) (seen : List ByteArray) (hm : H[mid]? = some (.map (encSeen seen))) :
    Holds (L0.rn 66 [.agg [.map mid, q0], .agg [q0, q1, q2, q3, q4, q5]] H) (fun r => r.1 = .int .i64 (runIt n.nodes seen (n.gn.map gnIt ++ (n.ld.map ldIt ++ n.so.map soIt))).1) := by
  have hE : EndH (H ++ [Mem.row [[.map mid, q0]] 2 true, Mem.row [[q0, q1, q2, q3, q4, q5]] 6 true]) mid H.length (H.length + 1) seen q0 q1 q2 q3 q4 q5 := ⟨at_app hm _, by rw [app_0]; rfl, by rw [app_1]; rfl⟩
  have hlens := lens hq
  refine rn_rule (fn := Try.f66) (code := bodyOf Try.f66) ok66 Try.func66 (by kernel_rfl) (Nat.le_of_ble_eq_true (by kernel_rfl)) ?_
  simp (decide := true) (implicitDefEqProofs := false) only [Am.findLoop, Am.loopOf, Am.bodyOf, Am.firstReg, Nat.beq, cond_true, cond_false, Am.splice, Am.walkW, Am.stdW, id, reduceCtorEq, Nat.reduceAdd, Nat.reduceSub, Nat.reduceMul, List.forall_mem_cons, List.forall_mem_nil, false_implies, implies_true, Try.f66, factsOf66, app_0, app_1, List.length_append, List.append_assoc, (hlens _).2.2.2.1]
  rw [holds_bind, holds_bind]
  refine (ends_gn H.length n q0 q1 q2 q3 q4 q5 hq mid H.length (H.length + 1) hn24 hg (0, seen, H ++ [Mem.row [[.map mid, q0]] 2 true, Mem.row [[q0, q1, q2, q3, q4, q5]] 6 true]) _ ⟨Nat.zero_le _, hE⟩ ?_).mono ?_
  · show maskK (hints.keep 66 2) _ _ = _
    simp (decide := true) (implicitDefEqProofs := false) only [Am.findLoop, Am.loopOf, Am.bodyOf, Am.firstReg, Nat.beq, cond_true, cond_false, Am.splice, Am.walkW, Am.stdW, id, reduceCtorEq, Nat.reduceAdd, Nat.reduceSub, Nat.reduceMul, List.forall_mem_cons, List.forall_mem_nil, false_implies, implies_true, Try.f66, factsOf66, keep66_2]
    rfl
  rintro r hp
  rw [List.drop_zero] at hp
  unfold postEnd at hp
  by_cases h1 : (runIt n.nodes seen (n.gn.map gnIt)).1 = 0
  · rw [if_pos h1] at hp
    obtain ⟨G1, rfl, hE1⟩ := hp
    have hN1 := hE1.n
    rw [runIt_append, if_pos h1]
    simp (decide := true) (implicitDefEqProofs := false) only [Am.findLoop, Am.loopOf, Am.bodyOf, Am.firstReg, Nat.beq, cond_true, cond_false, Am.splice, Am.walkW, Am.stdW, id, reduceCtorEq, Nat.reduceAdd, Nat.reduceSub, Nat.reduceMul, List.forall_mem_cons, List.forall_mem_nil, false_implies, implies_true, Try.f66, factsOf66, hN1, (hlens _).2.2.2.2.1]
    rw [holds_bind, holds_bind]
    refine (ends_ld H.length n q0 q1 q2 q3 q4 q5 hq mid H.length (H.length + 1) hn24 hld (0, (runIt n.nodes seen (n.gn.map gnIt)).2, G1) _ ⟨Nat.zero_le _, hE1⟩ ?_).mono ?_
    · show maskK (hints.keep 66 11) _ _ = _
      simp (decide := true) (implicitDefEqProofs := false) only [Am.findLoop, Am.loopOf, Am.bodyOf, Am.firstReg, Nat.beq, cond_true, cond_false, Am.splice, Am.walkW, Am.stdW, id, reduceCtorEq, Nat.reduceAdd, Nat.reduceSub, Nat.reduceMul, List.forall_mem_cons, List.forall_mem_nil, false_implies, implies_true, Try.f66, factsOf66, keep66_11]
      rfl
    rintro r hp
    rw [List.drop_zero] at hp
    unfold postEnd at hp
    generalize (runIt n.nodes seen (n.gn.map gnIt)).2 = seen2 at *
    by_cases h2 : (runIt n.nodes seen2 (n.ld.map ldIt)).1 = 0
    · rw [if_pos h2] at hp
      obtain ⟨G2, rfl, hE2⟩ := hp
      have hN2 := hE2.n
      rw [runIt_append, if_pos h2]
      simp (decide := true) (implicitDefEqProofs := false) only [Am.findLoop, Am.loopOf, Am.bodyOf, Am.firstReg, Nat.beq, cond_true, cond_false, Am.splice, Am.walkW, Am.stdW, id, reduceCtorEq, Nat.reduceAdd, Nat.reduceSub, Nat.reduceMul, List.forall_mem_cons, List.forall_mem_nil, false_implies, implies_true, Try.f66, factsOf66, hN2, (hlens _).2.2.2.2.2]
      rw [holds_bind, holds_bind]
      refine (ends_so H.length n q0 q1 q2 q3 q4 q5 hq mid H.length (H.length + 1) hn24 hso (0, (runIt n.nodes seen2 (n.ld.map ldIt)).2, G2) _ ⟨Nat.zero_le _, hE2⟩ ?_).mono ?_
      · show maskK (hints.keep 66 20) _ _ = _
        simp (decide := true) (implicitDefEqProofs := false) only [Am.findLoop, Am.loopOf, Am.bodyOf, Am.firstReg, Nat.beq, cond_true, cond_false, Am.splice, Am.walkW, Am.stdW, id, reduceCtorEq, Nat.reduceAdd, Nat.reduceSub, Nat.reduceMul, List.forall_mem_cons, List.forall_mem_nil, false_implies, implies_true, Try.f66, factsOf66, keep66_20]
        rfl
      rintro r hp
      rw [List.drop_zero] at hp
      unfold postEnd at hp
      generalize (runIt n.nodes seen2 (n.ld.map ldIt)).2 = seen3 at *
      by_cases h3 : (runIt n.nodes seen3 (n.so.map soIt)).1 = 0
      · rw [if_pos h3] at hp
        obtain ⟨G3, rfl, hE3⟩ := hp
        simp (decide := true) (implicitDefEqProofs := false) only [Am.findLoop, Am.loopOf, Am.bodyOf, Am.firstReg, Nat.beq, cond_true, cond_false, Am.splice, Am.walkW, Am.stdW, id, reduceCtorEq, Nat.reduceAdd, Nat.reduceSub, Nat.reduceMul, List.forall_mem_cons, List.forall_mem_nil, false_implies, implies_true, Try.f66, factsOf66, h3]
      · rw [if_neg h3] at hp
        obtain ⟨e, s'⟩ := r
        obtain ⟨h5, h6⟩ := hp
        cases h5
        simp (decide := true) (implicitDefEqProofs := false) only [Am.findLoop, Am.loopOf, Am.bodyOf, Am.firstReg, Nat.beq, cond_true, cond_false, Am.splice, Am.walkW, Am.stdW, id, reduceCtorEq, Nat.reduceAdd, Nat.reduceSub, Nat.reduceMul, List.forall_mem_cons, List.forall_mem_nil, false_implies, implies_true, Try.f66, factsOf66, h6]
    · rw [if_neg h2] at hp
      obtain ⟨e, s'⟩ := r
      obtain ⟨h5, h6⟩ := hp
      cases h5
      rw [runIt_append, if_neg h2]
      simp (decide := true) (implicitDefEqProofs := false) only [Am.findLoop, Am.loopOf, Am.bodyOf, Am.firstReg, Nat.beq, cond_true, cond_false, Am.splice, Am.walkW, Am.stdW, id, reduceCtorEq, Nat.reduceAdd, Nat.reduceSub, Nat.reduceMul, List.forall_mem_cons, List.forall_mem_nil, false_implies, implies_true, Try.f66, factsOf66, h6]
  · rw [if_neg h1] at hp
    obtain ⟨e, s'⟩ := r
    obtain ⟨h5, h6⟩ := hp
    cases h5
    rw [runIt_append, if_neg h1]
    simp (decide := true) (implicitDefEqProofs := false) only [Am.findLoop, Am.loopOf, Am.bodyOf, Am.firstReg, Nat.beq, cond_true, cond_false, Am.splice, Am.walkW, Am.stdW, id, reduceCtorEq, Nat.reduceAdd, Nat.reduceSub, Nat.reduceMul, List.forall_mem_cons, List.forall_mem_nil, false_implies, implies_true, Try.f66, factsOf66, h6]
set_option maxHeartbeats 8000000 in
theorem check_run (n : Net) (q0 q1 q2 q3 q4 q5 : PV) (hq : NetQ n q0 q1 q2 q3 q4 q5) : Holds (L0.rn 22 [.agg [q0, q1, q2, q3, q4, q5]] []) (fun r => r.1 = .int .i64 (netE n)) := by
  have hlens := lens hq
  have l0 := fun H => (hlens H).1
  have l1 := fun H => (hlens H).2.1
  have l2 := fun H => (hlens H).2.2.1
  have l3 := fun H => (hlens H).2.2.2.1
  have l4 := fun H => (hlens H).2.2.2.2.1
  have l5 := fun H => (hlens H).2.2.2.2.2
  have k0 : decide ((24 : Int) < n.nodes.length) = decide (24 < n.nodes.length) := by rw [Bool.eq_iff_iff]; simp only [decide_eq_true_eq]; omega
  have k1 : decide ((32 : Int) < n.sw.length) = decide (32 < n.sw.length) := by rw [Bool.eq_iff_iff]; simp only [decide_eq_true_eq]; omega
  have k2 : decide ((24 : Int) < n.br.length) = decide (24 < n.br.length) := by rw [Bool.eq_iff_iff]; simp only [decide_eq_true_eq]; omega
  have k3 : decide ((10 : Int) < n.gn.length) = decide (10 < n.gn.length) := by rw [Bool.eq_iff_iff]; simp only [decide_eq_true_eq]; omega
  have k4 : decide ((12 : Int) < n.ld.length) = decide (12 < n.ld.length) := by rw [Bool.eq_iff_iff]; simp only [decide_eq_true_eq]; omega
  have k5 : decide ((4 : Int) < n.so.length) = decide (4 < n.so.length) := by rw [Bool.eq_iff_iff]; simp only [decide_eq_true_eq]; omega
  cases hb0 : decide (24 < n.nodes.length) with
  | true =>
    refine rn_rule (fn := Try.f22) (code := bodyOf Try.f22) ok22 Try.func22 (by kernel_rfl) (Nat.le_of_ble_eq_true (by kernel_rfl)) ?_
    simp (decide := true) (implicitDefEqProofs := false) only [Am.findLoop, Am.loopOf, Am.bodyOf, Am.firstReg, Nat.beq, cond_true, cond_false, Am.splice, Am.walkW, Am.stdW, id, reduceCtorEq, Nat.reduceAdd, Nat.reduceSub, Nat.reduceMul, List.forall_mem_cons, List.forall_mem_nil, false_implies, implies_true, Try.f22, factsOf22, l0, l1, l2, l3, l4, l5, k0, hb0]
    simp [netE, large, hb0]
  | false =>
  cases hb1 : decide (32 < n.sw.length) with
  | true =>
    refine rn_rule (fn := Try.f22) (code := bodyOf Try.f22) ok22 Try.func22 (by kernel_rfl) (Nat.le_of_ble_eq_true (by kernel_rfl)) ?_
    simp (decide := true) (implicitDefEqProofs := false) only [Am.findLoop, Am.loopOf, Am.bodyOf, Am.firstReg, Nat.beq, cond_true, cond_false, Am.splice, Am.walkW, Am.stdW, id, reduceCtorEq, Nat.reduceAdd, Nat.reduceSub, Nat.reduceMul, List.forall_mem_cons, List.forall_mem_nil, false_implies, implies_true, Try.f22, factsOf22, l0, l1, l2, l3, l4, l5, k0, hb0, k1, hb1]
    simp [netE, large, hb1]
  | false =>
  cases hb2 : decide (24 < n.br.length) with
  | true =>
    refine rn_rule (fn := Try.f22) (code := bodyOf Try.f22) ok22 Try.func22 (by kernel_rfl) (Nat.le_of_ble_eq_true (by kernel_rfl)) ?_
    simp (decide := true) (implicitDefEqProofs := false) only [Am.findLoop, Am.loopOf, Am.bodyOf, Am.firstReg, Nat.beq, cond_true, cond_false, Am.splice, Am.walkW, Am.stdW, id, reduceCtorEq, Nat.reduceAdd, Nat.reduceSub, Nat.reduceMul, List.forall_mem_cons, List.forall_mem_nil, false_implies, implies_true, Try.f22, factsOf22, l0, l1, l2, l3, l4, l5, k0, hb0, k1, hb1, k2, hb2]
    simp [netE, large, hb2]
  | false =>
  cases hb3 : decide (10 < n.gn.length) with
  | true =>
    refine rn_rule (fn := Try.f22) (code := bodyOf Try.f22) ok22 Try.func22 (by kernel_rfl) (Nat.le_of_ble_eq_true (by kernel_rfl)) ?_
    simp (decide := true) (implicitDefEqProofs := false) only [Am.findLoop, Am.loopOf, Am.bodyOf, Am.firstReg, Nat.beq, cond_true, cond_false, Am.splice, Am.walkW, Am.stdW, id, reduceCtorEq, Nat.reduceAdd, Nat.reduceSub, Nat.reduceMul, List.forall_mem_cons, List.forall_mem_nil, false_implies, implies_true, Try.f22, factsOf22, l0, l1, l2, l3, l4, l5, k0, hb0, k1, hb1, k2, hb2, k3, hb3]
    simp [netE, large, hb3]
  | false =>
  cases hb4 : decide (12 < n.ld.length) with
  | true =>
    refine rn_rule (fn := Try.f22) (code := bodyOf Try.f22) ok22 Try.func22 (by kernel_rfl) (Nat.le_of_ble_eq_true (by kernel_rfl)) ?_
    simp (decide := true) (implicitDefEqProofs := false) only [Am.findLoop, Am.loopOf, Am.bodyOf, Am.firstReg, Nat.beq, cond_true, cond_false, Am.splice, Am.walkW, Am.stdW, id, reduceCtorEq, Nat.reduceAdd, Nat.reduceSub, Nat.reduceMul, List.forall_mem_cons, List.forall_mem_nil, false_implies, implies_true, Try.f22, factsOf22, l0, l1, l2, l3, l4, l5, k0, hb0, k1, hb1, k2, hb2, k3, hb3, k4, hb4]
    simp [netE, large, hb4]
  | false =>
  cases hb5 : decide (4 < n.so.length) with
  | true =>
    refine rn_rule (fn := Try.f22) (code := bodyOf Try.f22) ok22 Try.func22 (by kernel_rfl) (Nat.le_of_ble_eq_true (by kernel_rfl)) ?_
    simp (decide := true) (implicitDefEqProofs := false) only [Am.findLoop, Am.loopOf, Am.bodyOf, Am.firstReg, Nat.beq, cond_true, cond_false, Am.splice, Am.walkW, Am.stdW, id, reduceCtorEq, Nat.reduceAdd, Nat.reduceSub, Nat.reduceMul, List.forall_mem_cons, List.forall_mem_nil, false_implies, implies_true, Try.f22, factsOf22, l0, l1, l2, l3, l4, l5, k0, hb0, k1, hb1, k2, hb2, k3, hb3, k4, hb4, k5, hb5]
    simp [netE, large, hb5]
  | false =>
  have hlg : large n = false := by simp only [large, hb0, hb1, hb2, hb3, hb4, hb5, Bool.or_false]
  rw [decide_eq_false_iff_not] at *
  unfold netE
  rw [hlg, if_neg (by simp)]
  have hb0' := decide_eq_false hb0
  have hb1' := decide_eq_false hb1
  have hb2' := decide_eq_false hb2
  have hb3' := decide_eq_false hb3
  have hb4' := decide_eq_false hb4
  have hb5' := decide_eq_false hb5
  obtain ⟨a1, a2, a3, a4, a5, a6, a7⟩ := hq.h0.ids
  obtain ⟨b1, b2, b3, b4, b5, b6, b7⟩ := hq.h1.ids
  obtain ⟨c1, c2, c3, c4, c5, c6, c7⟩ := hq.h2.ids
  obtain ⟨d1, d2, d3, d4, d5, d6, d7⟩ := hq.h3.ids
  obtain ⟨e1, e2, e3, e4, e5, e6, e7⟩ := hq.h4.ids
  obtain ⟨f1, f2, f3, f4, f5, f6, f7⟩ := hq.h5.ids
  refine rn_rule (fn := Try.f22) (code := bodyOf Try.f22) ok22 Try.func22 (by kernel_rfl) (Nat.le_of_ble_eq_true (by kernel_rfl)) ?_
  have t1 := (Sl_tup hq.h0).1
  have t2 := (Sl_tup hq.h0).2
  have hs0 := seen_flat []
  rw [show encSeen [] = [] from rfl] at hs0
  simp (decide := true) (implicitDefEqProofs := false) only [Am.findLoop, Am.loopOf, Am.bodyOf, Am.firstReg, Nat.beq, cond_true, cond_false, Am.splice, Am.walkW, Am.stdW, id, reduceCtorEq, Nat.reduceAdd, Nat.reduceSub, Nat.reduceMul, List.forall_mem_cons, List.forall_mem_nil, false_implies, implies_true, Try.f22, factsOf22, l0, l1, l2, l3, l4, l5, k0, hb0', k1, hb1', k2, hb2', k3, hb3', k4, hb4', k5, hb5', makeMap_eq, fillAgg, build_struct, t1, t2]
  rw [holds_bind, holds_bind]
  refine (check_nodes n q0 q1 q2 q3 q4 q5 hq (by omega) (0, []) _ (Nat.zero_le _) ?_).mono ?_
  · show maskK (hints.keep 22 5) _ _ = _
    simp (decide := true) (implicitDefEqProofs := false) only [Am.findLoop, Am.loopOf, Am.bodyOf, Am.firstReg, Nat.beq, cond_true, cond_false, Am.splice, Am.walkW, Am.stdW, id, reduceCtorEq, Nat.reduceAdd, Nat.reduceSub, Nat.reduceMul, List.forall_mem_cons, List.forall_mem_nil, false_implies, implies_true, Try.f22, factsOf22, keep22_5, hs0, a1, a2, a3, a4, a5, a6, b1, b2, b3, b4, b5, b6, c1, c2, c3, c4, c5, c6, a7, b7, c7, d7, e7, f7, Am.compactK, Am.idsT, Am.closeStep, Am.keepW, Am.kstdW]
    rfl
  rintro r hp
  rw [List.drop_zero] at hp
  unfold postIt at hp
  rw [runIt_append]
  by_cases h1 : (runIt n.nodes [] (n.nodes.map nodeIt)).1 = 0
  · rw [if_pos h1] at hp
    subst hp
    rw [if_pos h1]
    simp only []
    generalize (runIt n.nodes [] (n.nodes.map nodeIt)).2 = s1 at *
    have hs1 := seen_flat s1
    simp (decide := true) (implicitDefEqProofs := false) only [Am.findLoop, Am.loopOf, Am.bodyOf, Am.firstReg, Nat.beq, cond_true, cond_false, Am.splice, Am.walkW, Am.stdW, id, reduceCtorEq, Nat.reduceAdd, Nat.reduceSub, Nat.reduceMul, List.forall_mem_cons, List.forall_mem_nil, false_implies, implies_true, Try.f22, factsOf22, canonCk, l1, hs1, a1, a2, a3, a4, a5, a6, b1, b2, b3, b4, b5, b6, c1, c2, c3, c4, c5, c6, a7, b7, c7, d7, e7, f7, Am.compactK, Am.idsT, Am.closeStep, Am.keepW, Am.kstdW]
    rw [holds_bind, holds_bind]
    refine (check_sw n q0 q1 q2 q3 q4 q5 hq (by omega) (by omega) (0, s1) _ (Nat.zero_le _) ?_).mono ?_
    · show maskK (hints.keep 22 12) _ _ = _
      simp (decide := true) (implicitDefEqProofs := false) only [Am.findLoop, Am.loopOf, Am.bodyOf, Am.firstReg, Nat.beq, cond_true, cond_false, Am.splice, Am.walkW, Am.stdW, id, reduceCtorEq, Nat.reduceAdd, Nat.reduceSub, Nat.reduceMul, List.forall_mem_cons, List.forall_mem_nil, false_implies, implies_true, Try.f22, factsOf22, keep22_12, hs1, a1, a2, a3, a4, a5, a6, b1, b2, b3, b4, b5, b6, c1, c2, c3, c4, c5, c6, a7, b7, c7, d7, e7, f7, Am.compactK, Am.idsT, Am.closeStep, Am.keepW, Am.kstdW]
      rfl
    rintro r hp
    rw [List.drop_zero] at hp
    unfold postIt at hp
    rw [runIt_append]
    by_cases h2 : (runIt n.nodes s1 (n.sw.map swIt)).1 = 0
    · rw [if_pos h2] at hp
      subst hp
      rw [if_pos h2]
      simp only []
      generalize (runIt n.nodes s1 (n.sw.map swIt)).2 = s2 at *
      have hs2 := seen_flat s2
      simp (decide := true) (implicitDefEqProofs := false) only [Am.findLoop, Am.loopOf, Am.bodyOf, Am.firstReg, Nat.beq, cond_true, cond_false, Am.splice, Am.walkW, Am.stdW, id, reduceCtorEq, Nat.reduceAdd, Nat.reduceSub, Nat.reduceMul, List.forall_mem_cons, List.forall_mem_nil, false_implies, implies_true, Try.f22, factsOf22, canonCk, l2, hs2, a1, a2, a3, a4, a5, a6, b1, b2, b3, b4, b5, b6, c1, c2, c3, c4, c5, c6, a7, b7, c7, d7, e7, f7, Am.compactK, Am.idsT, Am.closeStep, Am.keepW, Am.kstdW]
      rw [holds_bind, holds_bind]
      refine (check_br n q0 q1 q2 q3 q4 q5 hq (by omega) (by omega) (0, s2) _ (Nat.zero_le _) ?_).mono ?_
      · show maskK (hints.keep 22 19) _ _ = _
        simp (decide := true) (implicitDefEqProofs := false) only [Am.findLoop, Am.loopOf, Am.bodyOf, Am.firstReg, Nat.beq, cond_true, cond_false, Am.splice, Am.walkW, Am.stdW, id, reduceCtorEq, Nat.reduceAdd, Nat.reduceSub, Nat.reduceMul, List.forall_mem_cons, List.forall_mem_nil, false_implies, implies_true, Try.f22, factsOf22, keep22_19, hs2, a1, a2, a3, a4, a5, a6, b1, b2, b3, b4, b5, b6, c1, c2, c3, c4, c5, c6, a7, b7, c7, d7, e7, f7, Am.compactK, Am.idsT, Am.closeStep, Am.keepW, Am.kstdW]
        rfl
      rintro r hp
      rw [List.drop_zero] at hp
      unfold postIt at hp
      rw [runIt_append]
      by_cases h3 : (runIt n.nodes s2 (n.br.map brIt)).1 = 0
      · rw [if_pos h3] at hp
        subst hp
        rw [if_pos h3]
        simp only []
        generalize (runIt n.nodes s2 (n.br.map brIt)).2 = s3 at *
        have hs3 := seen_flat s3
        obtain ⟨⟨v, H'⟩, hr, hv⟩ := ends_run n q0 q1 q2 q3 q4 q5 hq (by omega) (by omega) (by omega) (by omega) [.row [[q0, q1, q2, q3, q4, q5]] 6 true, .row [[.map 2, q0]] 2 true, .map (encSeen s3)] 2 s3 rfl
        simp only at hv
        subst hv
        simp (decide := true) (implicitDefEqProofs := false) only [Am.findLoop, Am.loopOf, Am.bodyOf, Am.firstReg, Nat.beq, cond_true, cond_false, Am.splice, Am.walkW, Am.stdW, id, reduceCtorEq, Nat.reduceAdd, Nat.reduceSub, Nat.reduceMul, List.forall_mem_cons, List.forall_mem_nil, false_implies, implies_true, Try.f22, factsOf22, canonCk, hs3, hr, a1, a2, a3, a4, a5, a6, b1, b2, b3, b4, b5, b6, c1, c2, c3, c4, c5, c6, a7, b7, c7, d7, e7, f7, Am.compactK, Am.idsT, Am.closeStep, Am.keepW, Am.kstdW]
      · rw [if_neg h3] at hp
        obtain ⟨e, s'⟩ := r
        obtain ⟨h5, h6⟩ := hp
        cases h5
        rw [if_neg h3]
        simp (decide := true) (implicitDefEqProofs := false) only [Am.findLoop, Am.loopOf, Am.bodyOf, Am.firstReg, Nat.beq, cond_true, cond_false, Am.splice, Am.walkW, Am.stdW, id, reduceCtorEq, Nat.reduceAdd, Nat.reduceSub, Nat.reduceMul, List.forall_mem_cons, List.forall_mem_nil, false_implies, implies_true, Try.f22, factsOf22, h6]
    · rw [if_neg h2] at hp
      obtain ⟨e, s'⟩ := r
      obtain ⟨h5, h6⟩ := hp
      cases h5
      rw [if_neg h2]
      simp (decide := true) (implicitDefEqProofs := false) only [Am.findLoop, Am.loopOf, Am.bodyOf, Am.firstReg, Nat.beq, cond_true, cond_false, Am.splice, Am.walkW, Am.stdW, id, reduceCtorEq, Nat.reduceAdd, Nat.reduceSub, Nat.reduceMul, List.forall_mem_cons, List.forall_mem_nil, false_implies, implies_true, Try.f22, factsOf22, h6]
  · rw [if_neg h1] at hp
    obtain ⟨e, s'⟩ := r
    obtain ⟨h5, h6⟩ := hp
    cases h5
    rw [if_neg h1]
    simp (decide := true) (implicitDefEqProofs := false) only [Am.findLoop, Am.loopOf, Am.bodyOf, Am.firstReg, Nat.beq, cond_true, cond_false, Am.splice, Am.walkW, Am.stdW, id, reduceCtorEq, Nat.reduceAdd, Nat.reduceSub, Nat.reduceMul, List.forall_mem_cons, List.forall_mem_nil, false_implies, implies_true, Try.f22, factsOf22, h6]
theorem check_call (n : Net) (q0 q1 q2 q3 q4 q5 : PV) (hq : NetQ n q0 q1 q2 q3 q4 q5) : pureCall hints L0 22 [.agg [q0, q1, q2, q3, q4, q5]] = some (.int .i64 (netE n)) :=
  pure_of prim22 ((check_run n q0 q1 q2 q3 q4 q5 hq).mono fun r hr => by rw [hr]; rfl)
end Go.Proofs.Ytcclbkkgpcpikaa

import Derived.Test.YtcclbkkgpcpikaaGC
set_option linter.unusedSimpArgs false
set_option linter.unusedVariables false
namespace Go.Proofs.Ytcclbkkgpcpikaa
open Go.Am
set_option maxRecDepth 100000
theorem allIt_sz {n : Net} {q0 q1 q2 q3 q4 q5 : PV} (hq : NetQ n q0 q1 q2 q3 q4 q5) : ∀ x ∈ allIt n, x.name.size ≤ reachBytes ∧ (x.ns.length = 1 ∨ x.ns.length = 2) := by
  intro x hx
  simp only [allIt, List.mem_append, List.mem_map] at hx
  rcases hx with ⟨y, hy, rfl⟩ | ⟨y, hy, rfl⟩ | ⟨y, hy, rfl⟩ | ⟨y, hy, rfl⟩ | ⟨y, hy, rfl⟩
  · exact ⟨hq.z1 y hy, .inr rfl⟩
  · exact ⟨hq.z2 y hy, .inr rfl⟩
  · exact ⟨hq.z3 y hy, .inl rfl⟩
  · exact ⟨hq.z4 y hy, .inl rfl⟩
  · exact ⟨hq.z5 y hy, .inl rfl⟩
theorem runIt_len (nodes : List ByteArray) : ∀ (seen : List ByteArray) (l : List Item), (runIt nodes seen l).2.length ≤ seen.length + l.length
  | seen, [] => by simp [runIt]
  | seen, x :: r => by
    simp only [runIt]
    split
    · have := runIt_len nodes (seen ++ [x.name]) r
      simp only [List.length_append, List.length_cons, List.length_nil] at this ⊢
      omega
    · simp
theorem rch40_agg {H : List Mem} (cs : List PV) : rch expFuel H (.agg cs) = cs.flatMap (rch 39 H) := rfl
theorem Sl_rch39 {q : PV} {es : List (List PV)} (hq : Sl q es) {H : List Mem} : rch 39 H q = [] := by
  rcases hq with ⟨rfl, _⟩ | rfl <;> rfl
set_option maxHeartbeats 8000000 in
theorem netError_run (n : Net) (q0 q1 q2 q3 q4 q5 : PV) (hq : NetQ n q0 q1 q2 q3 q4 q5) : Holds (L0.rn 23 [.agg [q0, q1, q2, q3, q4, q5]] []) (fun r => r.1 = .int .i64 (netE n)) := by
  have hlens := lens hq
  have l0 := fun H => (hlens H).1
  have l1 := fun H => (hlens H).2.1
  have l2 := fun H => (hlens H).2.2.1
  have l3 := fun H => (hlens H).2.2.2.1
  have l4 := fun H => (hlens H).2.2.2.2.1
  have l5 := fun H => (hlens H).2.2.2.2.2
  have k0 : decide ((24 : Int) < n.nodes.length) = decide (24 < n.nodes.length) := by rw [Bool.eq_iff_iff]; simp only [decide_eq_true_eq]; omega
  have k1 : decide ((32 : Int) < n.sw.length) = decide (32 < n.sw.length) := by rw [Bool.eq_iff_iff]; simp only [decide_eq_true_eq]; omega
  have k2 : decide ((24 : Int) < n.br.length) = decide (24 < n.br.length) := by rw [Bool.eq_iff_iff]; simp only [decide_eq_true_eq]; omega
  have k3 : decide ((10 : Int) < n.gn.length) = decide (10 < n.gn.length) := by rw [Bool.eq_iff_iff]; simp only [decide_eq_true_eq]; omega
  have k4 : decide ((12 : Int) < n.ld.length) = decide (12 < n.ld.length) := by rw [Bool.eq_iff_iff]; simp only [decide_eq_true_eq]; omega
  have k5 : decide ((4 : Int) < n.so.length) = decide (4 < n.so.length) := by rw [Bool.eq_iff_iff]; simp only [decide_eq_true_eq]; omega
  cases hb0 : decide (24 < n.nodes.length) with
  | true =>
    refine rn_rule (fn := Try.f23) (code := bodyOf Try.f23) ok23 Try.func23 (by kernel_rfl) (Nat.le_of_ble_eq_true (by kernel_rfl)) ?_
    simp (decide := true) (implicitDefEqProofs := false) only [Am.findLoop, Am.loopOf, Am.bodyOf, Am.firstReg, Nat.beq, cond_true, cond_false, Am.splice, Am.walkW, Am.stdW, id, reduceCtorEq, Nat.reduceAdd, Nat.reduceSub, Nat.reduceMul, List.forall_mem_cons, List.forall_mem_nil, false_implies, implies_true, Try.f23, factsOf23, l0, l1, l2, l3, l4, l5, k0, hb0]
    simp [netE, large, hb0]
  | false =>
  cases hb1 : decide (32 < n.sw.length) with
  | true =>
    refine rn_rule (fn := Try.f23) (code := bodyOf Try.f23) ok23 Try.func23 (by kernel_rfl) (Nat.le_of_ble_eq_true (by kernel_rfl)) ?_
    simp (decide := true) (implicitDefEqProofs := false) only [Am.findLoop, Am.loopOf, Am.bodyOf, Am.firstReg, Nat.beq, cond_true, cond_false, Am.splice, Am.walkW, Am.stdW, id, reduceCtorEq, Nat.reduceAdd, Nat.reduceSub, Nat.reduceMul, List.forall_mem_cons, List.forall_mem_nil, false_implies, implies_true, Try.f23, factsOf23, l0, l1, l2, l3, l4, l5, k0, hb0, k1, hb1]
    simp [netE, large, hb1]
  | false =>
  cases hb2 : decide (24 < n.br.length) with
  | true =>
    refine rn_rule (fn := Try.f23) (code := bodyOf Try.f23) ok23 Try.func23 (by kernel_rfl) (Nat.le_of_ble_eq_true (by kernel_rfl)) ?_
    simp (decide := true) (implicitDefEqProofs := false) only [Am.findLoop, Am.loopOf, Am.bodyOf, Am.firstReg, Nat.beq, cond_true, cond_false, Am.splice, Am.walkW, Am.stdW, id, reduceCtorEq, Nat.reduceAdd, Nat.reduceSub, Nat.reduceMul, List.forall_mem_cons, List.forall_mem_nil, false_implies, implies_true, Try.f23, factsOf23, l0, l1, l2, l3, l4, l5, k0, hb0, k1, hb1, k2, hb2]
    simp [netE, large, hb2]
  | false =>
  cases hb3 : decide (10 < n.gn.length) with
  | true =>
    refine rn_rule (fn := Try.f23) (code := bodyOf Try.f23) ok23 Try.func23 (by kernel_rfl) (Nat.le_of_ble_eq_true (by kernel_rfl)) ?_
    simp (decide := true) (implicitDefEqProofs := false) only [Am.findLoop, Am.loopOf, Am.bodyOf, Am.firstReg, Nat.beq, cond_true, cond_false, Am.splice, Am.walkW, Am.stdW, id, reduceCtorEq, Nat.reduceAdd, Nat.reduceSub, Nat.reduceMul, List.forall_mem_cons, List.forall_mem_nil, false_implies, implies_true, Try.f23, factsOf23, l0, l1, l2, l3, l4, l5, k0, hb0, k1, hb1, k2, hb2, k3, hb3]
    simp [netE, large, hb3]
  | false =>
  cases hb4 : decide (12 < n.ld.length) with
  | true =>
    refine rn_rule (fn := Try.f23) (code := bodyOf Try.f23) ok23 Try.func23 (by kernel_rfl) (Nat.le_of_ble_eq_true (by kernel_rfl)) ?_
    simp (decide := true) (implicitDefEqProofs := false) only [Am.findLoop, Am.loopOf, Am.bodyOf, Am.firstReg, Nat.beq, cond_true, cond_false, Am.splice, Am.walkW, Am.stdW, id, reduceCtorEq, Nat.reduceAdd, Nat.reduceSub, Nat.reduceMul, List.forall_mem_cons, List.forall_mem_nil, false_implies, implies_true, Try.f23, factsOf23, l0, l1, l2, l3, l4, l5, k0, hb0, k1, hb1, k2, hb2, k3, hb3, k4, hb4]
    simp [netE, large, hb4]
  | false =>
  cases hb5 : decide (4 < n.so.length) with
  | true =>
    refine rn_rule (fn := Try.f23) (code := bodyOf Try.f23) ok23 Try.func23 (by kernel_rfl) (Nat.le_of_ble_eq_true (by kernel_rfl)) ?_
    simp (decide := true) (implicitDefEqProofs := false) only [Am.findLoop, Am.loopOf, Am.bodyOf, Am.firstReg, Nat.beq, cond_true, cond_false, Am.splice, Am.walkW, Am.stdW, id, reduceCtorEq, Nat.reduceAdd, Nat.reduceSub, Nat.reduceMul, List.forall_mem_cons, List.forall_mem_nil, false_implies, implies_true, Try.f23, factsOf23, l0, l1, l2, l3, l4, l5, k0, hb0, k1, hb1, k2, hb2, k3, hb3, k4, hb4, k5, hb5]
    simp [netE, large, hb5]
  | false =>
  have hlg : large n = false := by simp only [large, hb0, hb1, hb2, hb3, hb4, hb5, Bool.or_false]
  rw [decide_eq_false_iff_not] at *
  unfold netE
  rw [hlg, if_neg (by simp)]
  have hb0' := decide_eq_false hb0
  have hb1' := decide_eq_false hb1
  have hb2' := decide_eq_false hb2
  have hb3' := decide_eq_false hb3
  have hb4' := decide_eq_false hb4
  have hb5' := decide_eq_false hb5
  obtain ⟨a1, a2, a3, a4, a5, a6, a7⟩ := hq.h0.ids
  obtain ⟨b1, b2, b3, b4, b5, b6, b7⟩ := hq.h1.ids
  obtain ⟨c1, c2, c3, c4, c5, c6, c7⟩ := hq.h2.ids
  obtain ⟨d1, d2, d3, d4, d5, d6, d7⟩ := hq.h3.ids
  obtain ⟨e1, e2, e3, e4, e5, e6, e7⟩ := hq.h4.ids
  obtain ⟨f1, f2, f3, f4, f5, f6, f7⟩ := hq.h5.ids
  have t1 := (Sl_tup hq.h0).1
  have t2 := (Sl_tup hq.h0).2
  have p0 := hq.h0.plain
  have p1 := hq.h1.plain
  have p2 := hq.h2.plain
  have p3 := hq.h3.plain
  have p4 := hq.h4.plain
  have p5 := hq.h5.plain
  have r0 := fun (H : List Mem) => Sl_rch39 hq.h0 (H := H)
  have r1 := fun (H : List Mem) => Sl_rch39 hq.h1 (H := H)
  have r2 := fun (H : List Mem) => Sl_rch39 hq.h2 (H := H)
  have r3 := fun (H : List Mem) => Sl_rch39 hq.h3 (H := H)
  have r4 := fun (H : List Mem) => Sl_rch39 hq.h4 (H := H)
  have r5 := fun (H : List Mem) => Sl_rch39 hq.h5 (H := H)
  have hic := items_call n q0 q1 q2 q3 q4 q5 hq hlg
  have hqi := itemsQ_sl (allIt n)
  have hal : (allIt n).length ≤ 100 := by simp only [allIt, List.length_append, List.length_map]; omega
  have hlq := fun (H : List Mem) => len_sl (P := Try.prog) (H := H) hqi slZ112
  simp only [List.length_map] at hlq
  have hitems : n.sw.map swIt ++ (n.br.map brIt ++ (n.gn.map gnIt ++ (n.ld.map ldIt ++ n.so.map soIt))) = allIt n := rfl
  rw [hitems, runIt_append]
  obtain ⟨g1, g2, g3, g4, g5, g6, g7⟩ := hqi.ids
  refine rn_rule (fn := Try.f23) (code := bodyOf Try.f23) ok23 Try.func23 (by kernel_rfl) (Nat.le_of_ble_eq_true (by kernel_rfl)) ?_
  simp (decide := true) (implicitDefEqProofs := false) only [Am.findLoop, Am.loopOf, Am.bodyOf, Am.firstReg, Nat.beq, cond_true, cond_false, Am.splice, Am.walkW, Am.stdW, id, reduceCtorEq, Nat.reduceAdd, Nat.reduceSub, Nat.reduceMul, List.forall_mem_cons, List.forall_mem_nil, false_implies, implies_true, Try.f23, factsOf23, l0, l1, l2, l3, l4, l5, k0, hb0', k1, hb1', k2, hb2', k3, hb3', k4, hb4', k5, hb5']
  rw [holds_bind, holds_bind]
  refine (ne_nodes n q0 q1 q2 q3 q4 q5 hq (by omega) (0, []) _ ⟨Nat.zero_le _, Nat.zero_le _⟩ ?_).mono ?_
  · show maskK (hints.keep 23 6) _ _ = _
    simp (decide := true) (implicitDefEqProofs := false) only [Am.findLoop, Am.loopOf, Am.bodyOf, Am.firstReg, Nat.beq, cond_true, cond_false, Am.splice, Am.walkW, Am.stdW, id, reduceCtorEq, Nat.reduceAdd, Nat.reduceSub, Nat.reduceMul, List.forall_mem_cons, List.forall_mem_nil, false_implies, implies_true, Try.f23, factsOf23, keep23_6, a1, a2, a3, a4, a5, a6, b1, b2, b3, b4, b5, b6, c1, c2, c3, c4, c5, c6, d1, d2, d3, d4, d5, d6, e1, e2, e3, e4, e5, e6, f1, f2, f3, f4, f5, f6, a7, b7, c7, d7, e7, f7, Am.compactK, Am.idsT, Am.closeStep, Am.keepW, Am.kstdW]
    rfl
  rintro r hp
  rw [List.drop_zero] at hp
  unfold postIt at hp
  by_cases h1 : (runIt n.nodes [] (n.nodes.map nodeIt)).1 = 0
  · rw [if_pos h1] at hp
    subst hp
    rw [if_pos h1]
    simp only []
    have hsl : ((runIt n.nodes [] (n.nodes.map nodeIt)).2).length ≤ 200 := by
      have := runIt_len n.nodes [] (n.nodes.map nodeIt)
      simp only [List.length_map, List.length_nil] at this
      omega
    generalize (runIt n.nodes [] (n.nodes.map nodeIt)).2 = s1 at *
    have hm1 : ∀ (v : List (Nat × PV)), Am.get v 1 = some (.ptr 0 0 0) → Am.get v 4 = some (.func 67 [] [.ptr 1 0 0]) → compact (keepT v [1, 4]) (.row [[q0, q1, q2, q3, q4, q5]] 6 true :: .row [[metV 2 s1]] 1 true :: metH s1) = some ⟨[(1, .ptr 0 0 0), (4, .func 67 [] [.ptr 1 0 0])], .row [[q0, q1, q2, q3, q4, q5]] 6 true :: .row [[metV 2 s1]] 1 true :: metH s1⟩ := by
      intro v e1 e4
      cases s1 with
      | nil =>
        simp (decide := true) (implicitDefEqProofs := false) only [Am.findLoop, Am.loopOf, Am.bodyOf, Am.firstReg, Nat.beq, cond_true, cond_false, Am.splice, Am.walkW, Am.stdW, id, reduceCtorEq, Nat.reduceAdd, Nat.reduceSub, Nat.reduceMul, List.forall_mem_cons, List.forall_mem_nil, false_implies, implies_true, Try.f23, factsOf23, e1, e4, metV, metH, a1, a2, a3, a4, a5, a6, b1, b2, b3, b4, b5, b6, c1, c2, c3, c4, c5, c6, d1, d2, d3, d4, d5, d6, e1, e2, e3, e4, e5, e6, f1, f2, f3, f4, f5, f6, a7, b7, c7, d7, e7, f7, Am.compactK, Am.idsT, Am.closeStep, Am.keepW, Am.kstdW]
      | cons x r =>
        have hf := encS_flat (x :: r) 1 true
        simp only [List.map_cons] at hf
        simp (decide := true) (implicitDefEqProofs := false) only [Am.findLoop, Am.loopOf, Am.bodyOf, Am.firstReg, Nat.beq, cond_true, cond_false, Am.splice, Am.walkW, Am.stdW, id, reduceCtorEq, Nat.reduceAdd, Nat.reduceSub, Nat.reduceMul, List.forall_mem_cons, List.forall_mem_nil, false_implies, implies_true, Try.f23, factsOf23, e1, e4, metV, metH, hf, a1, a2, a3, a4, a5, a6, b1, b2, b3, b4, b5, b6, c1, c2, c3, c4, c5, c6, d1, d2, d3, d4, d5, d6, e1, e2, e3, e4, e5, e6, f1, f2, f3, f4, f5, f6, a7, b7, c7, d7, e7, f7, Am.compactK, Am.idsT, Am.closeStep, Am.keepW, Am.kstdW]
    have hk1 : ∀ (v : List (Nat × PV)), Am.get v 1 = some (.ptr 0 0 0) → Am.get v 4 = some (.func 67 [] [.ptr 1 0 0]) → Am.get v 63 = some (itemsQ (allIt n)) → Am.get v 64 = some (.int .i64 (allIt n).length) → Am.get v 65 = some (.int .i64 0) →
        compact (keepT v [1, 4, 63, 64, 65]) (.row [[q0, q1, q2, q3, q4, q5]] 6 true :: .row [[metV 2 s1]] 1 true :: metH s1) = some (canonNE q0 q1 q2 q3 q4 q5 63 64 65 (itemsQ (allIt n)) (allIt n).length 0 s1) := by
      intro v w1 w4 w5 w6 w7
      cases s1 with
      | nil =>
        simp (decide := true) (implicitDefEqProofs := false) only [Am.findLoop, Am.loopOf, Am.bodyOf, Am.firstReg, Nat.beq, cond_true, cond_false, Am.splice, Am.walkW, Am.stdW, id, reduceCtorEq, Nat.reduceAdd, Nat.reduceSub, Nat.reduceMul, List.forall_mem_cons, List.forall_mem_nil, false_implies, implies_true, Try.f23, factsOf23, w1, w4, w5, w6, w7, canonNE, metV, metH, g1, g2, g3, g4, g5, g6, g7, a1, a2, a3, a4, a5, a6, b1, b2, b3, b4, b5, b6, c1, c2, c3, c4, c5, c6, d1, d2, d3, d4, d5, d6, e1, e2, e3, e4, e5, e6, f1, f2, f3, f4, f5, f6, a7, b7, c7, d7, e7, f7, Am.compactK, Am.idsT, Am.closeStep, Am.keepW, Am.kstdW]
        rfl
      | cons x r =>
        have hf := encS_flat (x :: r) 1 true
        simp only [List.map_cons] at hf
        simp (decide := true) (implicitDefEqProofs := false) only [Am.findLoop, Am.loopOf, Am.bodyOf, Am.firstReg, Nat.beq, cond_true, cond_false, Am.splice, Am.walkW, Am.stdW, id, reduceCtorEq, Nat.reduceAdd, Nat.reduceSub, Nat.reduceMul, List.forall_mem_cons, List.forall_mem_nil, false_implies, implies_true, Try.f23, factsOf23, w1, w4, w5, w6, w7, canonNE, metV, metH, hf, g1, g2, g3, g4, g5, g6, g7, a1, a2, a3, a4, a5, a6, b1, b2, b3, b4, b5, b6, c1, c2, c3, c4, c5, c6, d1, d2, d3, d4, d5, d6, e1, e2, e3, e4, e5, e6, f1, f2, f3, f4, f5, f6, a7, b7, c7, d7, e7, f7, Am.compactK, Am.idsT, Am.closeStep, Am.keepW, Am.kstdW]
        rfl
    simp (decide := true) (implicitDefEqProofs := false) only [blockOut_exit, mask_compact, keepB23_0, if_true, canonNE]
    rw [hm1 _ rfl rfl]
    simp (decide := true) (implicitDefEqProofs := false) only [Am.findLoop, Am.loopOf, Am.bodyOf, Am.firstReg, Nat.beq, cond_true, cond_false, Am.splice, Am.walkW, Am.stdW, id, reduceCtorEq, Nat.reduceAdd, Nat.reduceSub, Nat.reduceMul, List.forall_mem_cons, List.forall_mem_nil, false_implies, implies_true, Try.f23, factsOf23, exp_agg, p0, p1, p2, p3, p4, p5, rch40_agg, r0, r1, r2, r3, r4, r5, hic, hlq]
    rw [holds_bind, holds_bind]
    refine (ne_items n q0 q1 q2 q3 q4 q5 hq (by omega) (allIt n) (itemsQ (allIt n)) hqi hal (allIt_sz hq) (0, s1) _ ⟨Nat.zero_le _, by simp only; omega⟩ ?_).mono ?_
    · show maskK (hints.keep 23 13) _ _ = _
      rw [keep23_13]
      exact hk1 _ rfl rfl rfl rfl rfl
    rintro r hp
    rw [List.drop_zero] at hp
    unfold postIt at hp
    by_cases h2 : (runIt n.nodes s1 (allIt n)).1 = 0
    · rw [if_pos h2] at hp
      subst hp
      simp (decide := true) (implicitDefEqProofs := false) only [Am.findLoop, Am.loopOf, Am.bodyOf, Am.firstReg, Nat.beq, cond_true, cond_false, Am.splice, Am.walkW, Am.stdW, id, reduceCtorEq, Nat.reduceAdd, Nat.reduceSub, Nat.reduceMul, List.forall_mem_cons, List.forall_mem_nil, false_implies, implies_true, Try.f23, factsOf23, h2, canonNE, compact_flat]
    · rw [if_neg h2] at hp
      obtain ⟨e, s'⟩ := r
      obtain ⟨h5, h6⟩ := hp
      cases h5
      simp (decide := true) (implicitDefEqProofs := false) only [Am.findLoop, Am.loopOf, Am.bodyOf, Am.firstReg, Nat.beq, cond_true, cond_false, Am.splice, Am.walkW, Am.stdW, id, reduceCtorEq, Nat.reduceAdd, Nat.reduceSub, Nat.reduceMul, List.forall_mem_cons, List.forall_mem_nil, false_implies, implies_true, Try.f23, factsOf23, h6]
  · rw [if_neg h1] at hp
    obtain ⟨e, s'⟩ := r
    obtain ⟨h5, h6⟩ := hp
    cases h5
    rw [if_neg h1]
    simp (decide := true) (implicitDefEqProofs := false) only [Am.findLoop, Am.loopOf, Am.bodyOf, Am.firstReg, Nat.beq, cond_true, cond_false, Am.splice, Am.walkW, Am.stdW, id, reduceCtorEq, Nat.reduceAdd, Nat.reduceSub, Nat.reduceMul, List.forall_mem_cons, List.forall_mem_nil, false_implies, implies_true, Try.f23, factsOf23, h6]
theorem netError_call (n : Net) (q0 q1 q2 q3 q4 q5 : PV) (hq : NetQ n q0 q1 q2 q3 q4 q5) : pureCall hints L0 23 [.agg [q0, q1, q2, q3, q4, q5]] = some (.int .i64 (netE n)) :=
  pure_of prim23 ((netError_run n q0 q1 q2 q3 q4 q5 hq).mono fun r hr => by rw [hr]; rfl)
end Go.Proofs.Ytcclbkkgpcpikaa

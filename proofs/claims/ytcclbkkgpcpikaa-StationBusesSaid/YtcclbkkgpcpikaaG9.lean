import Derived.Test.YtcclbkkgpcpikaaG8
set_option linter.unusedSimpArgs false
set_option linter.unusedVariables false
namespace Go.Proofs.Ytcclbkkgpcpikaa
open Go.Am
set_option maxRecDepth 100000
def allIt (n : Net) : List Item := n.sw.map swIt ++ (n.br.map brIt ++ (n.gn.map gnIt ++ (n.ld.map ldIt ++ n.so.map soIt)))
noncomputable def itemsQ : List Item → PV
  | [] => .nils
  | x :: r => .lst ((x :: r).map encIt)
theorem itemsQ_sl : ∀ l : List Item, Sl (itemsQ l) (l.map encIt)
  | [] => .inl ⟨rfl, rfl⟩
  | _ :: _ => .inr rfl
theorem encIt_plain (l : List Item) : ∀ c ∈ l.map encIt, ∀ x ∈ c, Plain x := by
  intro c hc v hv
  obtain ⟨x, _, rfl⟩ := List.mem_map.1 hc
  simp only [encIt, List.mem_cons, List.not_mem_nil, or_false] at hv
  rcases hv with rfl | rfl | rfl | rfl
  · exact plain_str _
  · exact plain_lst _
  · exact plain_bool _
  · exact plain_bool _
theorem accV_exp (i : Nat) (l : List Item) (H : List Mem) (hH : ∀ x r, l = x :: r → H[i]? = some (.row ((x :: r).map encIt) 4 true)) : exp expFuel H (accV i l) = some (itemsQ l) := by
  cases l with
  | nil => rfl
  | cons x r => exact exp_row (hH x r rfl) (by simp) (encIt_plain (x :: r))
set_option maxHeartbeats 8000000 in
theorem items_run (n : Net) (q0 q1 q2 q3 q4 q5 : PV) (hq : NetQ n q0 q1 q2 q3 q4 q5) (hlg : large n = false) : Holds (L0.rn 68 [.agg [q0, q1, q2, q3, q4, q5]] []) (fun r => exp expFuel r.2 r.1 = some (itemsQ (allIt n))) := by
  simp only [large, Bool.or_eq_false_iff, decide_eq_false_iff_not] at hlg
  obtain ⟨⟨⟨⟨⟨z0, z1⟩, z2⟩, z3⟩, z4⟩, z5⟩ := hlg
  have hlens := lens hq
  have l1 := fun H => (hlens H).2.1
  have l2 := fun H => (hlens H).2.2.1
  have l3 := fun H => (hlens H).2.2.2.1
  have l4 := fun H => (hlens H).2.2.2.2.1
  have l5 := fun H => (hlens H).2.2.2.2.2
  obtain ⟨a1, a2, a3, a4, a5, a6, a7⟩ := hq.h0.ids
  obtain ⟨b1, b2, b3, b4, b5, b6, b7⟩ := hq.h1.ids
  obtain ⟨c1, c2, c3, c4, c5, c6, c7⟩ := hq.h2.ids
  obtain ⟨d1, d2, d3, d4, d5, d6, d7⟩ := hq.h3.ids
  obtain ⟨e1, e2, e3, e4, e5, e6, e7⟩ := hq.h4.ids
  obtain ⟨f1, f2, f3, f4, f5, f6, f7⟩ := hq.h5.ids
  refine rn_rule (fn := Try.f68) (code := bodyOf Try.f68) ok68 Try.func68 (by kernel_rfl) (Nat.le_of_ble_eq_true (by kernel_rfl)) ?_
  simp (decide := true) (implicitDefEqProofs := false) only [Am.findLoop, Am.loopOf, Am.bodyOf, Am.firstReg, Nat.beq, cond_true, cond_false, Am.splice, Am.walkW, Am.stdW, id, reduceCtorEq, Nat.reduceAdd, Nat.reduceSub, Nat.reduceMul, List.forall_mem_cons, List.forall_mem_nil, false_implies, implies_true, Try.f68, factsOf68, l1]
  rw [holds_bind, holds_bind]
  refine (items_sw n q0 q1 q2 q3 q4 q5 hq (by omega) (0, []) _ ⟨Nat.zero_le _, Nat.zero_le _⟩ ?_).mono ?_
  · show maskK (hints.keep 68 3) _ _ = _
    simp (decide := true) (implicitDefEqProofs := false) only [Am.findLoop, Am.loopOf, Am.bodyOf, Am.firstReg, Nat.beq, cond_true, cond_false, Am.splice, Am.walkW, Am.stdW, id, reduceCtorEq, Nat.reduceAdd, Nat.reduceSub, Nat.reduceMul, List.forall_mem_cons, List.forall_mem_nil, false_implies, implies_true, Try.f68, factsOf68, keep68_3, a1, a2, a3, a4, a5, a6, b1, b2, b3, b4, b5, b6, c1, c2, c3, c4, c5, c6, d1, d2, d3, d4, d5, d6, e1, e2, e3, e4, e5, e6, f1, f2, f3, f4, f5, f6, a7, b7, c7, d7, e7, f7, Am.compactK, Am.idsT, Am.closeStep, Am.keepW, Am.kstdW]
    rfl
  rintro r hp
  rw [List.drop_zero, List.nil_append] at hp
  unfold postItm at hp
  subst hp
  generalize hA1 : n.sw.map swIt = A1
  have hA1l : A1.length ≤ 32 := by rw [← hA1]; simp; omega
  have hm1 : ∀ (v : List (Nat × PV)), Am.get v 1 = some (.ptr 0 0 0) → Am.get v 3 = some (accV 1 A1) → compact (keepT v [1, 3]) (.row [[q0, q1, q2, q3, q4, q5]] 6 true :: accH A1) = some ⟨[(1, .ptr 0 0 0), (3, accV 1 A1)], .row [[q0, q1, q2, q3, q4, q5]] 6 true :: accH A1⟩ := by
    intro v g1 g3
    cases A1 with
    | nil =>
      simp (decide := true) (implicitDefEqProofs := false) only [Am.findLoop, Am.loopOf, Am.bodyOf, Am.firstReg, Nat.beq, cond_true, cond_false, Am.splice, Am.walkW, Am.stdW, id, reduceCtorEq, Nat.reduceAdd, Nat.reduceSub, Nat.reduceMul, List.forall_mem_cons, List.forall_mem_nil, false_implies, implies_true, Try.f68, factsOf68, g1, g3, accV, accH, a1, a2, a3, a4, a5, a6, b1, b2, b3, b4, b5, b6, c1, c2, c3, c4, c5, c6, d1, d2, d3, d4, d5, d6, e1, e2, e3, e4, e5, e6, f1, f2, f3, f4, f5, f6, a7, b7, c7, d7, e7, f7, Am.compactK, Am.idsT, Am.closeStep, Am.keepW, Am.kstdW]
    | cons x r =>
      have hf := encIt_flat (x :: r) 4 true
      simp only [List.map_cons] at hf
      simp (decide := true) (implicitDefEqProofs := false) only [Am.findLoop, Am.loopOf, Am.bodyOf, Am.firstReg, Nat.beq, cond_true, cond_false, Am.splice, Am.walkW, Am.stdW, id, reduceCtorEq, Nat.reduceAdd, Nat.reduceSub, Nat.reduceMul, List.forall_mem_cons, List.forall_mem_nil, false_implies, implies_true, Try.f68, factsOf68, g1, g3, accV, accH, hf, a1, a2, a3, a4, a5, a6, b1, b2, b3, b4, b5, b6, c1, c2, c3, c4, c5, c6, d1, d2, d3, d4, d5, d6, e1, e2, e3, e4, e5, e6, f1, f2, f3, f4, f5, f6, a7, b7, c7, d7, e7, f7, Am.compactK, Am.idsT, Am.closeStep, Am.keepW, Am.kstdW]
  have hk1 : ∀ (v : List (Nat × PV)) (len : Nat), Am.get v 1 = some (.ptr 0 0 0) → Am.get v 3 = some (accV 1 A1) → Am.get v 34 = some q2 → Am.get v 35 = some (.int .i64 len) → Am.get v 36 = some (.int .i64 0) → compact (keepT v [1, 3, 34, 35, 36]) (.row [[q0, q1, q2, q3, q4, q5]] 6 true :: accH A1) = some (canonItm q0 q1 q2 q3 q4 q5 34 35 36 q2 len 0 A1) := by
    intro v len g1 g3 g4 g5 g6
    cases A1 with
    | nil =>
      simp (decide := true) (implicitDefEqProofs := false) only [Am.findLoop, Am.loopOf, Am.bodyOf, Am.firstReg, Nat.beq, cond_true, cond_false, Am.splice, Am.walkW, Am.stdW, id, reduceCtorEq, Nat.reduceAdd, Nat.reduceSub, Nat.reduceMul, List.forall_mem_cons, List.forall_mem_nil, false_implies, implies_true, Try.f68, factsOf68, g1, g3, g4, g5, g6, canonItm, accV, accH, a1, a2, a3, a4, a5, a6, b1, b2, b3, b4, b5, b6, c1, c2, c3, c4, c5, c6, d1, d2, d3, d4, d5, d6, e1, e2, e3, e4, e5, e6, f1, f2, f3, f4, f5, f6, a7, b7, c7, d7, e7, f7, Am.compactK, Am.idsT, Am.closeStep, Am.keepW, Am.kstdW]
      rfl
    | cons x r =>
      have hf := encIt_flat (x :: r) 4 true
      simp only [List.map_cons] at hf
      simp (decide := true) (implicitDefEqProofs := false) only [Am.findLoop, Am.loopOf, Am.bodyOf, Am.firstReg, Nat.beq, cond_true, cond_false, Am.splice, Am.walkW, Am.stdW, id, reduceCtorEq, Nat.reduceAdd, Nat.reduceSub, Nat.reduceMul, List.forall_mem_cons, List.forall_mem_nil, false_implies, implies_true, Try.f68, factsOf68, g1, g3, g4, g5, g6, canonItm, accV, accH, hf, a1, a2, a3, a4, a5, a6, b1, b2, b3, b4, b5, b6, c1, c2, c3, c4, c5, c6, d1, d2, d3, d4, d5, d6, e1, e2, e3, e4, e5, e6, f1, f2, f3, f4, f5, f6, a7, b7, c7, d7, e7, f7, Am.compactK, Am.idsT, Am.closeStep, Am.keepW, Am.kstdW]
      rfl
  simp (decide := true) (implicitDefEqProofs := false) only [blockOut_exit, mask_compact, keepB68_0, if_true, canonItm]
  rw [hm1 _ rfl rfl]
  simp (decide := true) (implicitDefEqProofs := false) only [Am.findLoop, Am.loopOf, Am.bodyOf, Am.firstReg, Nat.beq, cond_true, cond_false, Am.splice, Am.walkW, Am.stdW, id, reduceCtorEq, Nat.reduceAdd, Nat.reduceSub, Nat.reduceMul, List.forall_mem_cons, List.forall_mem_nil, false_implies, implies_true, Try.f68, factsOf68, l2]
  rw [holds_bind, holds_bind]
  refine (items_br n q0 q1 q2 q3 q4 q5 hq (by omega) (0, A1) _ ⟨Nat.zero_le _, by simp only; omega⟩ ?_).mono ?_
  · show maskK (hints.keep 68 8) _ _ = _
    rw [keep68_8]
    exact hk1 _ _ rfl rfl rfl rfl rfl
  rintro r hp
  rw [List.drop_zero] at hp
  unfold postItm at hp
  subst hp
  simp only []
  generalize hA2 : A1 ++ n.br.map brIt = A2
  have hA2l : A2.length ≤ 56 := by rw [← hA2]; simp; omega
  have hm2 : ∀ (v : List (Nat × PV)), Am.get v 1 = some (.ptr 0 0 0) → Am.get v 3 = some (accV 1 A2) → compact (keepT v [1, 3]) (.row [[q0, q1, q2, q3, q4, q5]] 6 true :: accH A2) = some ⟨[(1, .ptr 0 0 0), (3, accV 1 A2)], .row [[q0, q1, q2, q3, q4, q5]] 6 true :: accH A2⟩ := by
    intro v g1 g3
    cases A2 with
    | nil =>
      simp (decide := true) (implicitDefEqProofs := false) only [Am.findLoop, Am.loopOf, Am.bodyOf, Am.firstReg, Nat.beq, cond_true, cond_false, Am.splice, Am.walkW, Am.stdW, id, reduceCtorEq, Nat.reduceAdd, Nat.reduceSub, Nat.reduceMul, List.forall_mem_cons, List.forall_mem_nil, false_implies, implies_true, Try.f68, factsOf68, g1, g3, accV, accH, a1, a2, a3, a4, a5, a6, b1, b2, b3, b4, b5, b6, c1, c2, c3, c4, c5, c6, d1, d2, d3, d4, d5, d6, e1, e2, e3, e4, e5, e6, f1, f2, f3, f4, f5, f6, a7, b7, c7, d7, e7, f7, Am.compactK, Am.idsT, Am.closeStep, Am.keepW, Am.kstdW]
    | cons x r =>
      have hf := encIt_flat (x :: r) 4 true
      simp only [List.map_cons] at hf
      simp (decide := true) (implicitDefEqProofs := false) only [Am.findLoop, Am.loopOf, Am.bodyOf, Am.firstReg, Nat.beq, cond_true, cond_false, Am.splice, Am.walkW, Am.stdW, id, reduceCtorEq, Nat.reduceAdd, Nat.reduceSub, Nat.reduceMul, List.forall_mem_cons, List.forall_mem_nil, false_implies, implies_true, Try.f68, factsOf68, g1, g3, accV, accH, hf, a1, a2, a3, a4, a5, a6, b1, b2, b3, b4, b5, b6, c1, c2, c3, c4, c5, c6, d1, d2, d3, d4, d5, d6, e1, e2, e3, e4, e5, e6, f1, f2, f3, f4, f5, f6, a7, b7, c7, d7, e7, f7, Am.compactK, Am.idsT, Am.closeStep, Am.keepW, Am.kstdW]
  have hk2 : ∀ (v : List (Nat × PV)) (len : Nat), Am.get v 1 = some (.ptr 0 0 0) → Am.get v 3 = some (accV 1 A2) → Am.get v 56 = some q3 → Am.get v 57 = some (.int .i64 len) → Am.get v 58 = some (.int .i64 0) → compact (keepT v [1, 3, 56, 57, 58]) (.row [[q0, q1, q2, q3, q4, q5]] 6 true :: accH A2) = some (canonItm q0 q1 q2 q3 q4 q5 56 57 58 q3 len 0 A2) := by
    intro v len g1 g3 g4 g5 g6
    cases A2 with
    | nil =>
      simp (decide := true) (implicitDefEqProofs := false) only [Am.findLoop, Am.loopOf, Am.bodyOf, Am.firstReg, Nat.beq, cond_true, cond_false, Am.splice, Am.walkW, Am.stdW, id, reduceCtorEq, Nat.reduceAdd, Nat.reduceSub, Nat.reduceMul, List.forall_mem_cons, List.forall_mem_nil, false_implies, implies_true, Try.f68, factsOf68, g1, g3, g4, g5, g6, canonItm, accV, accH, a1, a2, a3, a4, a5, a6, b1, b2, b3, b4, b5, b6, c1, c2, c3, c4, c5, c6, d1, d2, d3, d4, d5, d6, e1, e2, e3, e4, e5, e6, f1, f2, f3, f4, f5, f6, a7, b7, c7, d7, e7, f7, Am.compactK, Am.idsT, Am.closeStep, Am.keepW, Am.kstdW]
      rfl
    | cons x r =>
      have hf := encIt_flat (x :: r) 4 true
      simp only [List.map_cons] at hf
      simp (decide := true) (implicitDefEqProofs := false) only [Am.findLoop, Am.loopOf, Am.bodyOf, Am.firstReg, Nat.beq, cond_true, cond_false, Am.splice, Am.walkW, Am.stdW, id, reduceCtorEq, Nat.reduceAdd, Nat.reduceSub, Nat.reduceMul, List.forall_mem_cons, List.forall_mem_nil, false_implies, implies_true, Try.f68, factsOf68, g1, g3, g4, g5, g6, canonItm, accV, accH, hf, a1, a2, a3, a4, a5, a6, b1, b2, b3, b4, b5, b6, c1, c2, c3, c4, c5, c6, d1, d2, d3, d4, d5, d6, e1, e2, e3, e4, e5, e6, f1, f2, f3, f4, f5, f6, a7, b7, c7, d7, e7, f7, Am.compactK, Am.idsT, Am.closeStep, Am.keepW, Am.kstdW]
      rfl
  simp (decide := true) (implicitDefEqProofs := false) only [blockOut_exit, mask_compact, keepB68_2, if_true, canonItm]
  rw [hm2 _ rfl rfl]
  simp (decide := true) (implicitDefEqProofs := false) only [Am.findLoop, Am.loopOf, Am.bodyOf, Am.firstReg, Nat.beq, cond_true, cond_false, Am.splice, Am.walkW, Am.stdW, id, reduceCtorEq, Nat.reduceAdd, Nat.reduceSub, Nat.reduceMul, List.forall_mem_cons, List.forall_mem_nil, false_implies, implies_true, Try.f68, factsOf68, l3]
  rw [holds_bind, holds_bind]
  refine (items_gn n q0 q1 q2 q3 q4 q5 hq (by omega) (0, A2) _ ⟨Nat.zero_le _, by simp only; omega⟩ ?_).mono ?_
  · show maskK (hints.keep 68 13) _ _ = _
    rw [keep68_13]
    exact hk2 _ _ rfl rfl rfl rfl rfl
  rintro r hp
  rw [List.drop_zero] at hp
  unfold postItm at hp
  subst hp
  simp only []
  generalize hA3 : A2 ++ n.gn.map gnIt = A3
  have hA3l : A3.length ≤ 66 := by rw [← hA3]; simp; omega
  have hm3 : ∀ (v : List (Nat × PV)), Am.get v 1 = some (.ptr 0 0 0) → Am.get v 3 = some (accV 1 A3) → compact (keepT v [1, 3]) (.row [[q0, q1, q2, q3, q4, q5]] 6 true :: accH A3) = some ⟨[(1, .ptr 0 0 0), (3, accV 1 A3)], .row [[q0, q1, q2, q3, q4, q5]] 6 true :: accH A3⟩ := by
    intro v g1 g3
    cases A3 with
    | nil =>
      simp (decide := true) (implicitDefEqProofs := false) only [Am.findLoop, Am.loopOf, Am.bodyOf, Am.firstReg, Nat.beq, cond_true, cond_false, Am.splice, Am.walkW, Am.stdW, id, reduceCtorEq, Nat.reduceAdd, Nat.reduceSub, Nat.reduceMul, List.forall_mem_cons, List.forall_mem_nil, false_implies, implies_true, Try.f68, factsOf68, g1, g3, accV, accH, a1, a2, a3, a4, a5, a6, b1, b2, b3, b4, b5, b6, c1, c2, c3, c4, c5, c6, d1, d2, d3, d4, d5, d6, e1, e2, e3, e4, e5, e6, f1, f2, f3, f4, f5, f6, a7, b7, c7, d7, e7, f7, Am.compactK, Am.idsT, Am.closeStep, Am.keepW, Am.kstdW]
    | cons x r =>
      have hf := encIt_flat (x :: r) 4 true
      simp only [List.map_cons] at hf
      simp (decide := true) (implicitDefEqProofs := false) only [Am.findLoop, Am.loopOf, Am.bodyOf, Am.firstReg, Nat.beq, cond_true, cond_false, Am.splice, Am.walkW, Am.stdW, id, reduceCtorEq, Nat.reduceAdd, Nat.reduceSub, Nat.reduceMul, List.forall_mem_cons, List.forall_mem_nil, false_implies, implies_true, Try.f68, factsOf68, g1, g3, accV, accH, hf, a1, a2, a3, a4, a5, a6, b1, b2, b3, b4, b5, b6, c1, c2, c3, c4, c5, c6, d1, d2, d3, d4, d5, d6, e1, e2, e3, e4, e5, e6, f1, f2, f3, f4, f5, f6, a7, b7, c7, d7, e7, f7, Am.compactK, Am.idsT, Am.closeStep, Am.keepW, Am.kstdW]
  have hk3 : ∀ (v : List (Nat × PV)) (len : Nat), Am.get v 1 = some (.ptr 0 0 0) → Am.get v 3 = some (accV 1 A3) → Am.get v 91 = some q4 → Am.get v 92 = some (.int .i64 len) → Am.get v 93 = some (.int .i64 0) → compact (keepT v [1, 3, 91, 92, 93]) (.row [[q0, q1, q2, q3, q4, q5]] 6 true :: accH A3) = some (canonItm q0 q1 q2 q3 q4 q5 91 92 93 q4 len 0 A3) := by
    intro v len g1 g3 g4 g5 g6
    cases A3 with
    | nil =>
      simp (decide := true) (implicitDefEqProofs := false) only [Am.findLoop, Am.loopOf, Am.bodyOf, Am.firstReg, Nat.beq, cond_true, cond_false, Am.splice, Am.walkW, Am.stdW, id, reduceCtorEq, Nat.reduceAdd, Nat.reduceSub, Nat.reduceMul, List.forall_mem_cons, List.forall_mem_nil, false_implies, implies_true, Try.f68, factsOf68, g1, g3, g4, g5, g6, canonItm, accV, accH, a1, a2, a3, a4, a5, a6, b1, b2, b3, b4, b5, b6, c1, c2, c3, c4, c5, c6, d1, d2, d3, d4, d5, d6, e1, e2, e3, e4, e5, e6, f1, f2, f3, f4, f5, f6, a7, b7, c7, d7, e7, f7, Am.compactK, Am.idsT, Am.closeStep, Am.keepW, Am.kstdW]
      rfl
    | cons x r =>
      have hf := encIt_flat (x :: r) 4 true
      simp only [List.map_cons] at hf
      simp (decide := true) (implicitDefEqProofs := false) only [Am.findLoop, Am.loopOf, Am.bodyOf, Am.firstReg, Nat.beq, cond_true, cond_false, Am.splice, Am.walkW, Am.stdW, id, reduceCtorEq, Nat.reduceAdd, Nat.reduceSub, Nat.reduceMul, List.forall_mem_cons, List.forall_mem_nil, false_implies, implies_true, Try.f68, factsOf68, g1, g3, g4, g5, g6, canonItm, accV, accH, hf, a1, a2, a3, a4, a5, a6, b1, b2, b3, b4, b5, b6, c1, c2, c3, c4, c5, c6, d1, d2, d3, d4, d5, d6, e1, e2, e3, e4, e5, e6, f1, f2, f3, f4, f5, f6, a7, b7, c7, d7, e7, f7, Am.compactK, Am.idsT, Am.closeStep, Am.keepW, Am.kstdW]
      rfl
  simp (decide := true) (implicitDefEqProofs := false) only [blockOut_exit, mask_compact, keepB68_4, if_true, canonItm]
  rw [hm3 _ rfl rfl]
  simp (decide := true) (implicitDefEqProofs := false) only [Am.findLoop, Am.loopOf, Am.bodyOf, Am.firstReg, Nat.beq, cond_true, cond_false, Am.splice, Am.walkW, Am.stdW, id, reduceCtorEq, Nat.reduceAdd, Nat.reduceSub, Nat.reduceMul, List.forall_mem_cons, List.forall_mem_nil, false_implies, implies_true, Try.f68, factsOf68, l4]
  rw [holds_bind, holds_bind]
  refine (items_ld n q0 q1 q2 q3 q4 q5 hq (by omega) (0, A3) _ ⟨Nat.zero_le _, by simp only; omega⟩ ?_).mono ?_
  · show maskK (hints.keep 68 18) _ _ = _
    rw [keep68_18]
    exact hk3 _ _ rfl rfl rfl rfl rfl
  rintro r hp
  rw [List.drop_zero] at hp
  unfold postItm at hp
  subst hp
  simp only []
  generalize hA4 : A3 ++ n.ld.map ldIt = A4
  have hA4l : A4.length ≤ 78 := by rw [← hA4]; simp; omega
  have hm4 : ∀ (v : List (Nat × PV)), Am.get v 1 = some (.ptr 0 0 0) → Am.get v 3 = some (accV 1 A4) → compact (keepT v [1, 3]) (.row [[q0, q1, q2, q3, q4, q5]] 6 true :: accH A4) = some ⟨[(1, .ptr 0 0 0), (3, accV 1 A4)], .row [[q0, q1, q2, q3, q4, q5]] 6 true :: accH A4⟩ := by
    intro v g1 g3
    cases A4 with
    | nil =>
      simp (decide := true) (implicitDefEqProofs := false) only [Am.findLoop, Am.loopOf, Am.bodyOf, Am.firstReg, Nat.beq, cond_true, cond_false, Am.splice, Am.walkW, Am.stdW, id, reduceCtorEq, Nat.reduceAdd, Nat.reduceSub, Nat.reduceMul, List.forall_mem_cons, List.forall_mem_nil, false_implies, implies_true, Try.f68, factsOf68, g1, g3, accV, accH, a1, a2, a3, a4, a5, a6, b1, b2, b3, b4, b5, b6, c1, c2, c3, c4, c5, c6, d1, d2, d3, d4, d5, d6, e1, e2, e3, e4, e5, e6, f1, f2, f3, f4, f5, f6, a7, b7, c7, d7, e7, f7, Am.compactK, Am.idsT, Am.closeStep, Am.keepW, Am.kstdW]
    | cons x r =>
      have hf := encIt_flat (x :: r) 4 true
      simp only [List.map_cons] at hf
      simp (decide := true) (implicitDefEqProofs := false) only [Am.findLoop, Am.loopOf, Am.bodyOf, Am.firstReg, Nat.beq, cond_true, cond_false, Am.splice, Am.walkW, Am.stdW, id, reduceCtorEq, Nat.reduceAdd, Nat.reduceSub, Nat.reduceMul, List.forall_mem_cons, List.forall_mem_nil, false_implies, implies_true, Try.f68, factsOf68, g1, g3, accV, accH, hf, a1, a2, a3, a4, a5, a6, b1, b2, b3, b4, b5, b6, c1, c2, c3, c4, c5, c6, d1, d2, d3, d4, d5, d6, e1, e2, e3, e4, e5, e6, f1, f2, f3, f4, f5, f6, a7, b7, c7, d7, e7, f7, Am.compactK, Am.idsT, Am.closeStep, Am.keepW, Am.kstdW]
  have hk4 : ∀ (v : List (Nat × PV)) (len : Nat), Am.get v 3 = some (accV 1 A4) → Am.get v 112 = some q5 → Am.get v 113 = some (.int .i64 len) → Am.get v 114 = some (.int .i64 0) → compact (keepT v [3, 112, 113, 114]) (.row [[q0, q1, q2, q3, q4, q5]] 6 true :: accH A4) = some (canonItz 112 113 114 q5 len 0 A4) := by
    intro v len g3 g4 g5 g6
    cases A4 with
    | nil =>
      simp (decide := true) (implicitDefEqProofs := false) only [Am.findLoop, Am.loopOf, Am.bodyOf, Am.firstReg, Nat.beq, cond_true, cond_false, Am.splice, Am.walkW, Am.stdW, id, reduceCtorEq, Nat.reduceAdd, Nat.reduceSub, Nat.reduceMul, List.forall_mem_cons, List.forall_mem_nil, false_implies, implies_true, Try.f68, factsOf68, g3, g4, g5, g6, canonItz, accV, accH, a1, a2, a3, a4, a5, a6, b1, b2, b3, b4, b5, b6, c1, c2, c3, c4, c5, c6, d1, d2, d3, d4, d5, d6, e1, e2, e3, e4, e5, e6, f1, f2, f3, f4, f5, f6, a7, b7, c7, d7, e7, f7, Am.compactK, Am.idsT, Am.closeStep, Am.keepW, Am.kstdW]
      rfl
    | cons x r =>
      have hf := encIt_flat (x :: r) 4 true
      simp only [List.map_cons] at hf
      simp (decide := true) (implicitDefEqProofs := false) only [Am.findLoop, Am.loopOf, Am.bodyOf, Am.firstReg, Nat.beq, cond_true, cond_false, Am.splice, Am.walkW, Am.stdW, id, reduceCtorEq, Nat.reduceAdd, Nat.reduceSub, Nat.reduceMul, List.forall_mem_cons, List.forall_mem_nil, false_implies, implies_true, Try.f68, factsOf68, g3, g4, g5, g6, canonItz, accV, accH, hf, a1, a2, a3, a4, a5, a6, b1, b2, b3, b4, b5, b6, c1, c2, c3, c4, c5, c6, d1, d2, d3, d4, d5, d6, e1, e2, e3, e4, e5, e6, f1, f2, f3, f4, f5, f6, a7, b7, c7, d7, e7, f7, Am.compactK, Am.idsT, Am.closeStep, Am.keepW, Am.kstdW]
      rfl
  simp (decide := true) (implicitDefEqProofs := false) only [blockOut_exit, mask_compact, keepB68_6, if_true, canonItm]
  rw [hm4 _ rfl rfl]
  simp (decide := true) (implicitDefEqProofs := false) only [Am.findLoop, Am.loopOf, Am.bodyOf, Am.firstReg, Nat.beq, cond_true, cond_false, Am.splice, Am.walkW, Am.stdW, id, reduceCtorEq, Nat.reduceAdd, Nat.reduceSub, Nat.reduceMul, List.forall_mem_cons, List.forall_mem_nil, false_implies, implies_true, Try.f68, factsOf68, l5]
  rw [holds_bind, holds_bind]
  refine (items_so n q0 q1 q2 q3 q4 q5 hq (by omega) (0, A4) _ ⟨Nat.zero_le _, by simp only; omega⟩ ?_).mono ?_
  · show maskK (hints.keep 68 23) _ _ = _
    rw [keep68_23]
    exact hk4 _ _ rfl rfl rfl rfl
  rintro r hp
  rw [List.drop_zero] at hp
  unfold postItz at hp
  subst hp
  simp only []
  generalize hA5 : A4 ++ n.so.map soIt = A5
  have hA5l : A5.length ≤ 82 := by rw [← hA5]; simp; omega
  have hall : allIt n = A5 := by rw [← hA5, ← hA4, ← hA3, ← hA2, ← hA1, allIt]; simp
  rw [hall]
  have hm5 : ∀ (v : List (Nat × PV)), Am.get v 3 = some (accV 0 A5) → compact (keepT v [3]) (accH A5) = some ⟨[(3, accV 0 A5)], accH A5⟩ := by
    intro v g3
    cases A5 with
    | nil =>
      simp (decide := true) (implicitDefEqProofs := false) only [Am.findLoop, Am.loopOf, Am.bodyOf, Am.firstReg, Nat.beq, cond_true, cond_false, Am.splice, Am.walkW, Am.stdW, id, reduceCtorEq, Nat.reduceAdd, Nat.reduceSub, Nat.reduceMul, List.forall_mem_cons, List.forall_mem_nil, false_implies, implies_true, Try.f68, factsOf68, g3, accV, accH, a1, a2, a3, a4, a5, a6, b1, b2, b3, b4, b5, b6, c1, c2, c3, c4, c5, c6, d1, d2, d3, d4, d5, d6, e1, e2, e3, e4, e5, e6, f1, f2, f3, f4, f5, f6, a7, b7, c7, d7, e7, f7, Am.compactK, Am.idsT, Am.closeStep, Am.keepW, Am.kstdW]
    | cons x r =>
      have hf := encIt_flat (x :: r) 4 true
      simp only [List.map_cons] at hf
      simp (decide := true) (implicitDefEqProofs := false) only [Am.findLoop, Am.loopOf, Am.bodyOf, Am.firstReg, Nat.beq, cond_true, cond_false, Am.splice, Am.walkW, Am.stdW, id, reduceCtorEq, Nat.reduceAdd, Nat.reduceSub, Nat.reduceMul, List.forall_mem_cons, List.forall_mem_nil, false_implies, implies_true, Try.f68, factsOf68, g3, accV, accH, hf, a1, a2, a3, a4, a5, a6, b1, b2, b3, b4, b5, b6, c1, c2, c3, c4, c5, c6, d1, d2, d3, d4, d5, d6, e1, e2, e3, e4, e5, e6, f1, f2, f3, f4, f5, f6, a7, b7, c7, d7, e7, f7, Am.compactK, Am.idsT, Am.closeStep, Am.keepW, Am.kstdW]
  simp (decide := true) (implicitDefEqProofs := false) only [blockOut_exit, mask_compact, keepB68_8, if_true, canonItz]
  rw [hm5 _ rfl]
  simp (decide := true) (implicitDefEqProofs := false) only [Am.findLoop, Am.loopOf, Am.bodyOf, Am.firstReg, Nat.beq, cond_true, cond_false, Am.splice, Am.walkW, Am.stdW, id, reduceCtorEq, Nat.reduceAdd, Nat.reduceSub, Nat.reduceMul, List.forall_mem_cons, List.forall_mem_nil, false_implies, implies_true, Try.f68, factsOf68]
  exact accV_exp 0 A5 _ (by rintro x r rfl; rfl)
theorem items_call (n : Net) (q0 q1 q2 q3 q4 q5 : PV) (hq : NetQ n q0 q1 q2 q3 q4 q5) (hlg : large n = false) : pureCall hints L0 68 [.agg [q0, q1, q2, q3, q4, q5]] = some (itemsQ (allIt n)) :=
  pure_of prim68 (items_run n q0 q1 q2 q3 q4 q5 hq hlg)
end Go.Proofs.Ytcclbkkgpcpikaa

import Derived.Test.YtcclbkkgpcpikaaGA
set_option linter.unusedSimpArgs false
set_option linter.unusedVariables false
namespace Go.Proofs.Ytcclbkkgpcpikaa
open Go.Am
set_option maxRecDepth 100000
noncomputable def canonNE (q0 q1 q2 q3 q4 q5 : PV) (a b c : Nat) (q : PV) (len i : Nat) (met : List ByteArray) : St :=
  ⟨[(1, .ptr 0 0 0), (4, .func 67 [] [.ptr 1 0 0]), (a, q), (b, .int .i64 len), (c, .int .i64 i)], .row [[q0, q1, q2, q3, q4, q5]] 6 true :: .row [[metV 2 met]] 1 true :: metH met⟩
theorem itE_node (nodes met : List ByteArray) (s : ByteArray) : itE nodes met (nodeIt s) = chkE met s := by
  unfold itE nodeIt
  simp only [devE_nil, Bool.false_eq_true, if_false]
  split <;> simp_all
set_option maxHeartbeats 4000000 in
theorem ne_nodes (n : Net) (q0 q1 q2 q3 q4 q5 : PV) (hq : NetQ n q0 q1 q2 q3 q4 q5) (hl : n.nodes.length ≤ 24) : ∀ (a : Nat × List ByteArray) (t : St), (a.1 ≤ n.nodes.length ∧ a.2.length ≤ 100 + a.1) →
    maskK (hints.keep 23 (firstReg (loopOf Try.f23 6))) ⟨23, 0, 105⟩ t = some (canonNE q0 q1 q2 q3 q4 q5 49 50 51 q0 n.nodes.length a.1 a.2) →
    Holds (L0.ex ⟨23, 0, 105⟩ (.loop (loopOf Try.f23 6)) t) (postIt 0 2 (fun met => ⟨(52, .bool false) :: (canonNE q0 q1 q2 q3 q4 q5 49 50 51 q0 n.nodes.length n.nodes.length met).tm, (canonNE q0 q1 q2 q3 q4 q5 49 50 51 q0 0 0 met).hp⟩) (runIt n.nodes a.2 ((n.nodes.map nodeIt).drop a.1))) := by
  refine loop_rule (σ := Nat × List ByteArray) (c := ⟨23, 0, 105⟩) (b := loopOf Try.f23 6) (fun a => canonNE q0 q1 q2 q3 q4 q5 49 50 51 q0 n.nodes.length a.1 a.2) (fun a => a.1 ≤ n.nodes.length ∧ a.2.length ≤ 100 + a.1) (fun a => n.nodes.length - a.1) _ ?_
  rintro ⟨i, met⟩ ⟨hi, hml⟩
  simp only at hi hml
  obtain ⟨a1, a2, a3, a4, a5, a6, a7⟩ := hq.h0.ids
  obtain ⟨b1, b2, b3, b4, b5, b6, b7⟩ := hq.h1.ids
  obtain ⟨c1, c2, c3, c4, c5, c6, c7⟩ := hq.h2.ids
  obtain ⟨d1, d2, d3, d4, d5, d6, d7⟩ := hq.h3.ids
  obtain ⟨e1, e2, e3, e4, e5, e6, e7⟩ := hq.h4.ids
  obtain ⟨f1, f2, f3, f4, f5, f6, f7⟩ := hq.h5.ids
  by_cases hlt : i < n.nodes.length
  · have hix := fun H => index_sl (P := Try.prog) (H := H) hq.h0 slZ41 (k := .i64) (j := i) (by omega) (encS_get hlt) rfl
    have hlt' : decide ((i : Int) < n.nodes.length) = true := decide_eq_true (by omega)
    have hw : IntKind.i64.wrap ((i : Int) + 1) = ((i + 1 : Nat) : Int) := wrap64 (by omega) (by omega)
    have hget := nodeIt_get hlt
    generalize hsx : n.nodes[i] = sx at hix hget
    have hszx : sx.size ≤ reachBytes := by rw [← hsx]; exact hq.z0 _ (List.getElem_mem _)
    cases met with
    | nil =>
      obtain ⟨H', hr, hH⟩ := name0_a (.row [[q0, q1, q2, q3, q4, q5]] 6 true) sx hszx
      by_cases hd : chkE [] sx = 0
      · have hH' := hH hd
        subst hH'
        rw [hd] at hr
        simp (decide := true) (implicitDefEqProofs := false) only [Am.findLoop, Am.loopOf, Am.bodyOf, Am.firstReg, Nat.beq, cond_true, cond_false, Am.splice, Am.walkW, Am.stdW, id, reduceCtorEq, Nat.reduceAdd, Nat.reduceSub, Nat.reduceMul, List.forall_mem_cons, List.forall_mem_nil, false_implies, implies_true, Try.f23, factsOf23, canonNE, metV, metH, hix, hlt', hw, keep23_6, hr, a1, a2, a3, a4, a5, a6, b1, b2, b3, b4, b5, b6, c1, c2, c3, c4, c5, c6, d1, d2, d3, d4, d5, d6, e1, e2, e3, e4, e5, e6, f1, f2, f3, f4, f5, f6, a7, b7, c7, d7, e7, f7, Am.compactK, Am.idsT, Am.closeStep, Am.keepW, Am.kstdW]
        exact ⟨(i + 1, [sx]), rfl, ⟨hlt, by simp; omega⟩, by simp only; omega, fun r hr => postIt_next hget (by rw [itE_node]; exact hd) hr⟩
      · have hd' : decide (chkE [] sx = 0) = false := decide_eq_false hd
        simp (decide := true) (implicitDefEqProofs := false) only [Am.findLoop, Am.loopOf, Am.bodyOf, Am.firstReg, Nat.beq, cond_true, cond_false, Am.splice, Am.walkW, Am.stdW, id, reduceCtorEq, Nat.reduceAdd, Nat.reduceSub, Nat.reduceMul, List.forall_mem_cons, List.forall_mem_nil, false_implies, implies_true, Try.f23, factsOf23, canonNE, metV, metH, hix, hlt', hw, keep23_6, hr, hd']
        exact postIt_bad hget (by rw [itE_node]; exact hd) (by rw [itE_node]; rfl)
    | cons y met =>
      have hml2 : met.length ≤ 1000 := by simp at hml; omega
      obtain ⟨H', hr, hH⟩ := name1_a (.row [[q0, q1, q2, q3, q4, q5]] 6 true) y met hml2 sx hszx
      have hfl := encS_flat ((y :: met) ++ [sx]) 1 true
      have es : encS sx = [.str sx] := rfl
      simp only [List.cons_append, List.map_cons, List.map_nil, List.map_append, es] at hfl
      by_cases hd : chkE (y :: met) sx = 0
      · have hH' := hH hd
        subst hH'
        rw [hd] at hr
        simp (decide := true) (implicitDefEqProofs := false) only [Am.findLoop, Am.loopOf, Am.bodyOf, Am.firstReg, Nat.beq, cond_true, cond_false, Am.splice, Am.walkW, Am.stdW, id, reduceCtorEq, Nat.reduceAdd, Nat.reduceSub, Nat.reduceMul, List.forall_mem_cons, List.forall_mem_nil, false_implies, implies_true, Try.f23, factsOf23, canonNE, metV, metH, hix, hlt', hw, keep23_6, hr, hfl, a1, a2, a3, a4, a5, a6, b1, b2, b3, b4, b5, b6, c1, c2, c3, c4, c5, c6, d1, d2, d3, d4, d5, d6, e1, e2, e3, e4, e5, e6, f1, f2, f3, f4, f5, f6, a7, b7, c7, d7, e7, f7, Am.compactK, Am.idsT, Am.closeStep, Am.keepW, Am.kstdW]
        refine ⟨(i + 1, (y :: met) ++ [sx]), by simp only [canonNE, metV, metH, List.cons_append, List.length_append, List.length_cons, List.length_nil, List.map_cons, List.map_append, List.map_nil, es], ⟨hlt, by simp at hml ⊢; omega⟩, by simp only; omega, fun r hr => postIt_next hget (by rw [itE_node]; exact hd) hr⟩
      · have hd' : decide (chkE (y :: met) sx = 0) = false := decide_eq_false hd
        simp (decide := true) (implicitDefEqProofs := false) only [Am.findLoop, Am.loopOf, Am.bodyOf, Am.firstReg, Nat.beq, cond_true, cond_false, Am.splice, Am.walkW, Am.stdW, id, reduceCtorEq, Nat.reduceAdd, Nat.reduceSub, Nat.reduceMul, List.forall_mem_cons, List.forall_mem_nil, false_implies, implies_true, Try.f23, factsOf23, canonNE, metV, metH, hix, hlt', hw, keep23_6, hr, hd']
        exact postIt_bad hget (by rw [itE_node]; exact hd) (by rw [itE_node]; rfl)
  · have hlt' : decide ((i : Int) < n.nodes.length) = false := decide_eq_false (by omega)
    simp (decide := true) (implicitDefEqProofs := false) only [Am.findLoop, Am.loopOf, Am.bodyOf, Am.firstReg, Nat.beq, cond_true, cond_false, Am.splice, Am.walkW, Am.stdW, id, reduceCtorEq, Nat.reduceAdd, Nat.reduceSub, Nat.reduceMul, List.forall_mem_cons, List.forall_mem_nil, false_implies, implies_true, Try.f23, factsOf23, canonNE, hlt']
    refine postIt_end (by simp; omega) ?_
    have : i = n.nodes.length := by omega
    rw [this]
noncomputable def canonIn (q0 q1 q2 q3 q4 q5 : PV) (qi : PV) (len i : Nat) (x : Item) (y : ByteArray) (met : List ByteArray) (j : Nat) : St :=
  ⟨[(1, .ptr 0 0 0), (4, .func 67 [] [.ptr 1 0 0]), (9, .ptr 2 0 0), (63, qi), (64, .int .i64 len), (65, .int .i64 i), (77, .lst (x.ns.map encS)), (78, .int .i64 x.ns.length), (79, .int .i64 j)],
    [.row [[q0, q1, q2, q3, q4, q5]] 6 true, .row [[.ref 3 0 (met.length + 1) (met.length + 1)]] 1 true, .row [encIt x] 4 true, .row (encS y :: met.map encS) 1 true]⟩
def postIn (q0 q1 q2 q3 q4 q5 : PV) (qi : PV) (len i : Nat) (x : Item) (y : ByteArray) (met nodes : List ByteArray) (j : Nat) (r : Ex × St) : Prop :=
  if (x.ns.drop j).all (fun s => memS s nodes) = true then r = (.exit 4, ⟨(80, .bool false) :: (canonIn q0 q1 q2 q3 q4 q5 qi len i x y met x.ns.length).tm, (canonIn q0 q1 q2 q3 q4 q5 qi len i x y met 0).hp⟩) else r.1 = .ret ∧ Am.get r.2.tm 2 = some (.int .i64 6)
set_option maxHeartbeats 4000000 in
theorem ne_inner (n : Net) (q0 q1 q2 q3 q4 q5 : PV) (hq : NetQ n q0 q1 q2 q3 q4 q5) (hl : n.nodes.length ≤ 24) (qi : PV) (l : List (List PV)) (hqi : Sl qi l) (len i : Nat) (x : Item) (hns : x.ns.length ≤ 1000) (y : ByteArray) (met : List ByteArray) : ∀ (j : Nat) (t : St), j ≤ x.ns.length →
    maskK (hints.keep 23 (firstReg (loopOf Try.f23 19))) ⟨23, 0, 105⟩ t = some (canonIn q0 q1 q2 q3 q4 q5 qi len i x y met j) →
    Holds (L0.ex ⟨23, 0, 105⟩ (.loop (loopOf Try.f23 19)) t) (postIn q0 q1 q2 q3 q4 q5 qi len i x y met n.nodes j) := by
  refine loop_rule (c := ⟨23, 0, 105⟩) (b := loopOf Try.f23 19) (canonIn q0 q1 q2 q3 q4 q5 qi len i x y met) (fun j => j ≤ x.ns.length) (fun j => x.ns.length - j) _ ?_
  intro j hj
  obtain ⟨a1, a2, a3, a4, a5, a6, a7⟩ := hq.h0.ids
  obtain ⟨b1, b2, b3, b4, b5, b6, b7⟩ := hq.h1.ids
  obtain ⟨c1, c2, c3, c4, c5, c6, c7⟩ := hq.h2.ids
  obtain ⟨d1, d2, d3, d4, d5, d6, d7⟩ := hq.h3.ids
  obtain ⟨e1, e2, e3, e4, e5, e6, e7⟩ := hq.h4.ids
  obtain ⟨f1, f2, f3, f4, f5, f6, f7⟩ := hq.h5.ids
  obtain ⟨g1, g2, g3, g4, g5, g6, g7⟩ := hqi.ids
  have hf1 := encS_flat (y :: met) 1 true
  simp only [List.map_cons] at hf1
  have hf2 := encIt_flat [x] 4 true
  simp only [List.map_cons, List.map_nil] at hf2
  by_cases hlt : j < x.ns.length
  · have hix := fun H => index_sl (P := Try.prog) (H := H) (q := .lst (x.ns.map encS)) (.inr rfl) slZ41 (k := .i64) (j := j) (by omega) (encS_get hlt) rfl
    have hlt' : decide ((j : Int) < x.ns.length) = true := decide_eq_true (by omega)
    have hw : IntKind.i64.wrap ((j : Int) + 1) = ((j + 1 : Nat) : Int) := wrap64 (by omega) (by omega)
    have hc := has_call q0 n.nodes hq.h0 x.ns[j] (by unfold maxLen; omega)
    have hx := fun H => hq.h0.plain.exp (H := H)
    have hdr : x.ns.drop j = x.ns[j] :: x.ns.drop (j + 1) := List.drop_eq_getElem_cons hlt
    generalize x.ns[j] = sx at *
    cases hb : memS sx n.nodes with
    | true =>
      simp (decide := true) (implicitDefEqProofs := false) only [Am.findLoop, Am.loopOf, Am.bodyOf, Am.firstReg, Nat.beq, cond_true, cond_false, Am.splice, Am.walkW, Am.stdW, id, reduceCtorEq, Nat.reduceAdd, Nat.reduceSub, Nat.reduceMul, List.forall_mem_cons, List.forall_mem_nil, false_implies, implies_true, Try.f23, factsOf23, canonIn, hix, hlt', hw, keep23_19, hc, hx, hb, hf1, hf2, g1, g2, g3, g4, g5, g6, g7, a1, a2, a3, a4, a5, a6, b1, b2, b3, b4, b5, b6, c1, c2, c3, c4, c5, c6, d1, d2, d3, d4, d5, d6, e1, e2, e3, e4, e5, e6, f1, f2, f3, f4, f5, f6, a7, b7, c7, d7, e7, f7, Am.compactK, Am.idsT, Am.closeStep, Am.keepW, Am.kstdW]
      refine ⟨j + 1, rfl, hlt, by omega, fun r hr => ?_⟩
      unfold postIn at hr ⊢
      rw [hdr, List.all_cons, hb]
      exact hr
    | false =>
      simp (decide := true) (implicitDefEqProofs := false) only [Am.findLoop, Am.loopOf, Am.bodyOf, Am.firstReg, Nat.beq, cond_true, cond_false, Am.splice, Am.walkW, Am.stdW, id, reduceCtorEq, Nat.reduceAdd, Nat.reduceSub, Nat.reduceMul, List.forall_mem_cons, List.forall_mem_nil, false_implies, implies_true, Try.f23, factsOf23, canonIn, hix, hlt', hw, keep23_19, hc, hx, hb]
      unfold postIn
      rw [hdr, List.all_cons, hb]
      exact ⟨rfl, rfl⟩
  · have hlt' : decide ((j : Int) < x.ns.length) = false := decide_eq_false (by omega)
    simp (decide := true) (implicitDefEqProofs := false) only [Am.findLoop, Am.loopOf, Am.bodyOf, Am.firstReg, Nat.beq, cond_true, cond_false, Am.splice, Am.walkW, Am.stdW, id, reduceCtorEq, Nat.reduceAdd, Nat.reduceSub, Nat.reduceMul, List.forall_mem_cons, List.forall_mem_nil, false_implies, implies_true, Try.f23, factsOf23, canonIn, hlt']
    unfold postIn
    rw [List.drop_eq_nil_of_le (by omega)]
    have : j = x.ns.length := by omega
    rw [this]
    rfl
end Go.Proofs.Ytcclbkkgpcpikaa

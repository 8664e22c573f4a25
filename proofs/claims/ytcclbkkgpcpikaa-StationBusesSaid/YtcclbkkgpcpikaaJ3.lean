import Derived.Test.YtcclbkkgpcpikaaJ2
set_option linter.unusedSimpArgs false
set_option linter.unusedVariables false
namespace Go.Proofs.Ytcclbkkgpcpikaa
open Go.Am
set_option maxRecDepth 100000
def closedL (n : Net) : List (Nat × Nat) := (edgA n false).map (·.1)
theorem edgL_sub (n : Net) (op : Bool) : ∀ (l : List Sw) (i : Nat), (edgL n op i l).length ≤ l.length ∧ ∀ x ∈ edgL n op i l, ∃ s ∈ l, x.1 = swE n s
  | [], _ => ⟨Nat.le_refl _, fun x hx => by cases hx⟩
  | s :: r, i => by
    obtain ⟨h1, h2⟩ := edgL_sub n op r (i + 1)
    rw [edgL]
    split
    · refine ⟨by simp only [List.length_cons]; omega, ?_⟩
      intro x hx
      rcases List.mem_cons.1 hx with rfl | hx
      · exact ⟨s, List.mem_cons_self, rfl⟩
      · obtain ⟨t, ht, he⟩ := h2 x hx
        exact ⟨t, List.mem_cons_of_mem _ ht, he⟩
    · refine ⟨by simp only [List.length_cons]; omega, ?_⟩
      intro x hx
      obtain ⟨t, ht, he⟩ := h2 x hx
      exact ⟨t, List.mem_cons_of_mem _ ht, he⟩
theorem edgA_ok {n : Net} (hv : VNet n) (op : Bool) : okL n.nodes.length ((edgA n op).map (·.1)) ∧ ((edgA n op).map (·.1)).length ≤ 32 := by
  obtain ⟨h1, h2⟩ := edgL_sub n op n.sw 0
  refine ⟨?_, by rw [List.length_map]; exact Nat.le_trans h1 hv.ls⟩
  intro x hx
  obtain ⟨y, hy, rfl⟩ := List.mem_map.1 hx
  obtain ⟨s, hs, he⟩ := h2 y hy
  rw [he]
  obtain ⟨m1, m2⟩ := hv.sw s hs
  exact ⟨(plN_ok m1).2, (plN_ok m2).2⟩
theorem graphCheck_ok {n : Nat} {l : List (Nat × Nat)} (hn : n ≤ 24) (ho : okL n l) (hl : l.length ≤ 64) : graphCheck n (l.map castE) = 0 := by
  unfold graphCheck
  rw [if_neg (by rw [List.length_map]; omega), if_pos]
  rw [List.all_eq_true]
  intro x hx
  obtain ⟨y, hy, rfl⟩ := List.mem_map.1 hx
  have := ho y hy
  simp only [inR, castE, Bool.and_eq_true]
  exact ⟨⟨⟨decide_eq_true (by omega), decide_eq_true (by omega)⟩, decide_eq_true (by omega)⟩, decide_eq_true (by omega)⟩
theorem encP1_plain (l : List ((Nat × Nat) × Nat)) : ∀ c ∈ l.map encP1, ∀ x ∈ c, Plain x := by
  intro c hc v hv
  obtain ⟨x, _, rfl⟩ := List.mem_map.1 hc
  exact enc2N_plain x.1 v hv
theorem rch_ints {es : List (List PV)} (h : ∀ c ∈ es, ∀ v ∈ c, ∃ k n, v = PV.int k n) (n : Nat) (H : List Mem) : es.flatMap (fun c => c.flatMap (rch (n + 1) H)) = [] := by
  rw [List.flatMap_eq_nil_iff]
  intro c hc
  rw [List.flatMap_eq_nil_iff]
  intro v hv
  obtain ⟨k, m, rfl⟩ := h c hc v hv
  rfl
theorem exp_full {H : List Mem} {i k z : Nat} {es : List (List PV)} {b : Bool} (hH : H[i]? = some (.row es z b)) (hl : es.length = k) (hp : ∀ c ∈ es, ∀ x ∈ c, Plain x) : exp expFuel H (.ref i 0 k k) = some (.lst es) := exp_row hH hl hp
theorem rch_full {H : List Mem} {i k z : Nat} {es : List (List PV)} {b : Bool} (hH : H[i]? = some (.row es z b)) (h : ∀ c ∈ es, ∀ v ∈ c, ∃ k n, v = PV.int k n) (hl : es.length = k) : rch expFuel H (.ref i 0 k k) = [i] := by
  rw [rch40_ref, hH, rchO_row, List.drop_zero, List.take_of_length_le (by omega), rch_ints h 38 H]
set_option maxHeartbeats 8000000 in
theorem sbuses_call (n : Net) (q0 q1 q2 q3 q4 q5 : PV) (hq : NetQ n q0 q1 q2 q3 q4 q5) (hv : VNet n) : pureCall hints L1 83 [.agg [q0, q1, q2, q3, q4, q5]] = some (.lst ((partsF (-1) (closedL n) n.nodes.length).map encI)) := by
  refine pure_of prim83 (Holds.mono (Q := fun r => r.1 = .lst ((partsF (-1) (closedL n) n.nodes.length).map encI)) ?_ fun r hr => by rw [hr]; rfl)
  have hl0 := fun H => (lens hq H).1
  have he := fun b => edges_imp n q0 q1 q2 q3 q4 q5 hq hv false b
  have hne := hq.exp
  have hnr := hq.rch
  obtain ⟨ho1, ho2⟩ := edgA_ok hv false
  have hln := hv.ln
  have hg := graphCheck_ok hln ho1 (by omega)
  have hc := fun q hq' => comp_ok q ((edgA n false).map (·.1)) hq' n.nodes.length hln ho1 (by omega) hg
  unfold closedL
  generalize edgA n false = l at he hc
  cases l with
  | nil =>
    have hc1 := hc .nils (.inl ⟨rfl, rfl⟩)
    simp only [List.map_nil] at hc1
    refine rn_rule (fn := Try.f83) (code := bodyOf Try.f83) ok83 Try.func83 (by kernel_rfl) (Nat.le_of_ble_eq_true (by kernel_rfl)) ?_
    simp (decide := true) (implicitDefEqProofs := false) only [Am.findLoop, Am.loopOf, Am.bodyOf, Am.firstReg, Nat.beq, cond_true, cond_false, Am.splice, Am.walkW, Am.stdW, id, reduceCtorEq, Nat.reduceAdd, Nat.reduceSub, Nat.reduceMul, List.forall_mem_cons, List.forall_mem_nil, false_implies, implies_true, Try.f83, factsOf83, hl0, he, hne, hnr, hc1, accG, accGH]
  | cons y acc =>
    have hc1 := hc (.lst ((y :: acc).map encP1)) (.inr (by rw [List.map_map]; rfl))
    have hex : ∀ H : List Mem, H[1]? = some (.row ((y :: acc).map encP1) 2 true) → exp expFuel H (.ref 1 0 (acc.length + 1) (acc.length + 1)) = some (.lst ((y :: acc).map encP1)) := fun H hH => exp_full hH (by simp) (encP1_plain _)
    have hrx : ∀ H : List Mem, H[1]? = some (.row ((y :: acc).map encP1) 2 true) → rch expFuel H (.ref 1 0 (acc.length + 1) (acc.length + 1)) = [1] := fun H hH => rch_full hH (by
      intro c hc v hv
      obtain ⟨x, _, rfl⟩ := List.mem_map.1 hc
      simp only [encP1, enc2N, List.mem_cons, List.not_mem_nil, or_false] at hv
      rcases hv with rfl | rfl <;> exact ⟨_, _, rfl⟩) (by simp)
    simp only [List.map_cons] at hc1 hex hrx
    refine rn_rule (fn := Try.f83) (code := bodyOf Try.f83) ok83 Try.func83 (by kernel_rfl) (Nat.le_of_ble_eq_true (by kernel_rfl)) ?_
    simp (decide := true) (implicitDefEqProofs := false) only [Am.findLoop, Am.loopOf, Am.bodyOf, Am.firstReg, Nat.beq, cond_true, cond_false, Am.splice, Am.walkW, Am.stdW, id, reduceCtorEq, Nat.reduceAdd, Nat.reduceSub, Nat.reduceMul, List.forall_mem_cons, List.forall_mem_nil, false_implies, implies_true, Try.f83, factsOf83, hl0, he, hne, hnr, hc1, hex, hrx, accG, accGH, freeze_cons, freeze1_O, frzO_row]
/-! the reference's buses -/
def usedC (n : Net) (i : Nat) : Bool := match n.sw[i]? with
  | some x => !x.opn
  | none => false
theorem closedC_call (n : Net) (q0 q1 q2 q3 q4 q5 : PV) (hq : NetQ n q0 q1 q2 q3 q4 q5) {i : Nat} (hi : i < n.sw.length) : pureCall hints L1 86 [.int .i64 i, .box [q0, q1, q2, q3, q4, q5] 0] = some (.bool (usedC n i)) := by
  refine pure_of prim86 (Holds.mono (Q := fun r => r.1 = .bool (usedC n i)) ?_ fun r hr => by rw [hr]; rfl)
  have hix := fun H => index_sl (P := Try.prog) (H := H) hq.h1 slZ42 (k := .i64) (j := i) (by omega) (encSw_get hi) rfl
  have hu : usedC n i = !n.sw[i].opn := by unfold usedC; rw [List.getElem?_eq_getElem hi]
  rw [hu]
  generalize n.sw[i] = x at hix
  simp only [encSw] at hix
  refine rn_rule (fn := Try.f86) (code := bodyOf Try.f86) ok86 Try.func86 (by kernel_rfl) (Nat.le_of_ble_eq_true (by kernel_rfl)) ?_
  simp (decide := true) (implicitDefEqProofs := false) only [Am.findLoop, Am.loopOf, Am.bodyOf, Am.firstReg, Nat.beq, cond_true, cond_false, Am.splice, Am.walkW, Am.stdW, id, reduceCtorEq, Nat.reduceAdd, Nat.reduceSub, Nat.reduceMul, List.forall_mem_cons, List.forall_mem_nil, false_implies, implies_true, Try.f86, factsOf86, hix]
theorem closed_call (n : Net) (q0 q1 q2 q3 q4 q5 : PV) (hq : NetQ n q0 q1 q2 q3 q4 q5) : pureCall hints L1 48 [.agg [q0, q1, q2, q3, q4, q5]] = some (.func 86 [] [.box [q0, q1, q2, q3, q4, q5] 0]) := by
  have hp : ∀ c ∈ [q0, q1, q2, q3, q4, q5], Plain c := by
    intro c hc
    simp only [List.mem_cons, List.not_mem_nil, or_false] at hc
    rcases hc with rfl | rfl | rfl | rfl | rfl | rfl
    · exact hq.h0.plain
    · exact hq.h1.plain
    · exact hq.h2.plain
    · exact hq.h3.plain
    · exact hq.h4.plain
    · exact hq.h5.plain
  refine pure_of prim48 (Holds.mono (Q := fun r => r = (.func 86 [] [.ptr 0 0 0], [rowN q0 q1 q2 q3 q4 q5])) ?_ fun r hr => by
    rw [hr, exp40_func, omap_nil', omap_cons', exp39_ptr]
    show ((some []).bind fun a' => ((ptrC 38 _ 0 0 (some (rowN q0 q1 q2 q3 q4 q5))).bind _).bind _) = _
    rw [rowN, ptrC_row, List.getElem?_cons_zero]
    simp only [Option.bind_some]
    rw [plains (n := 37) hp]
    rfl)
  refine rn_rule (fn := Try.f48) (code := bodyOf Try.f48) ok48 Try.func48 (by kernel_rfl) (Nat.le_of_ble_eq_true (by kernel_rfl)) ?_
  simp (decide := true) (implicitDefEqProofs := false) only [Am.findLoop, Am.loopOf, Am.bodyOf, Am.firstReg, Nat.beq, cond_true, cond_false, Am.splice, Am.walkW, Am.stdW, id, reduceCtorEq, Nat.reduceAdd, Nat.reduceSub, Nat.reduceMul, List.forall_mem_cons, List.forall_mem_nil, false_implies, implies_true, Try.f48, factsOf48]
  rfl
theorem clo_closed (n : Net) (q0 q1 q2 q3 q4 q5 : PV) (hq : NetQ n q0 q1 q2 q3 q4 q5) : Clo 86 [.box [q0, q1, q2, q3, q4, q5] 0] (usedC n) (swL n).length :=
  ⟨opn86, imp86, mem86, rfl, rfl, fun H => rfl, fun H => rfl, fun H => rfl, fun j hj => closedC_call n q0 q1 q2 q3 q4 q5 hq (by rwa [swL, List.length_map] at hj)⟩
theorem outN_sl' (l : List Nat) : Sl (outN l) (l.map encN) := by
  cases l with
  | nil => exact .inl ⟨rfl, rfl⟩
  | cons x r => exact .inr rfl
theorem rch39_box {H : List Mem} (c : List PV) (r : Nat) : Am.rch 39 H (.box c r) = [] := rfl
def busF (n : Net) : List Nat := numbersF (joinedF (usedC n) n.nodes.length (swL n)) n.nodes.length
set_option maxHeartbeats 8000000 in
theorem rbuses_call (n : Net) (q0 q1 q2 q3 q4 q5 : PV) (hq : NetQ n q0 q1 q2 q3 q4 q5) (hv : VNet n) : pureCall hints L1 40 [.agg [q0, q1, q2, q3, q4, q5]] = some (outN (busF n)) := by
  have sl := outN_sl' (busF n)
  refine pure_of prim40 (Holds.mono (Q := fun r => r.1 = outN (busF n)) ?_ fun r hr => by rw [hr]; exact sl.plain.exp)
  have hl0 := fun H => (lens hq H).1
  have hln := hv.ln
  have hso := swL_ok hv
  have hsl : (swL n).length ≤ 64 := by rw [swL, List.length_map]; have := hv.ls; omega
  have hsw := fun b => switching_imp n q0 q1 q2 q3 q4 q5 hq hv b
  have hcl := closed_call n q0 q1 q2 q3 q4 q5 hq
  have hj := joined_call n.nodes.length hln _ _ (outG_sl enc2N (swL n)) hso hsl _ _ _ (clo_closed n q0 q1 q2 q3 q4 q5 hq)
  have hnm := numbers_call n.nodes.length hln _ (joinedF_sq (used := usedC n) hso)
  rw [matC_eq] at hj hnm
  have hne := hq.exp
  have hnr := hq.rch
  have hbF : busF n = numbersF (joinedF (usedC n) n.nodes.length (swL n)) n.nodes.length := rfl
  rw [hbF]
  generalize numbersF (joinedF (usedC n) n.nodes.length (swL n)) n.nodes.length = B at hnm
  generalize joinedF (usedC n) n.nodes.length (swL n) = J at hj hnm
  generalize swL n = l at hsw hj
  cases l with
  | nil =>
    simp only [outG] at hj
    refine rn_rule (fn := Try.f40) (code := bodyOf Try.f40) ok40 Try.func40 (by kernel_rfl) (Nat.le_of_ble_eq_true (by kernel_rfl)) ?_
    simp (decide := true) (implicitDefEqProofs := false) only [Am.findLoop, Am.loopOf, Am.bodyOf, Am.firstReg, Nat.beq, cond_true, cond_false, Am.splice, Am.walkW, Am.stdW, id, reduceCtorEq, Nat.reduceAdd, Nat.reduceSub, Nat.reduceMul, List.forall_mem_cons, List.forall_mem_nil, false_implies, implies_true, Try.f40, factsOf40, hl0, hsw, hcl, hj, hnm, accG, accGH, hne, hnr, exp40_func, rch40_func, exp39_box, rch39_box, freeze_nil]
  | cons y acc =>
    have hex : ∀ H : List Mem, H[1]? = some (.row ((y :: acc).map enc2N) 2 true) → exp expFuel H (.ref 1 0 (acc.length + 1) (acc.length + 1)) = some (.lst ((y :: acc).map enc2N)) := fun H hH => exp_full hH (by simp) (by
      intro c hc v hv
      obtain ⟨x, _, rfl⟩ := List.mem_map.1 hc
      exact enc2N_plain x v hv)
    have hrx : ∀ H : List Mem, H[1]? = some (.row ((y :: acc).map enc2N) 2 true) → rch expFuel H (.ref 1 0 (acc.length + 1) (acc.length + 1)) = [1] := fun H hH => rch_full hH (by
      intro c hc v hv
      obtain ⟨x, _, rfl⟩ := List.mem_map.1 hc
      obtain ⟨k, rfl⟩ := enc2N_int x v hv
      exact ⟨_, _, rfl⟩) (by simp)
    simp only [outG, List.map_cons] at hj hex hrx
    refine rn_rule (fn := Try.f40) (code := bodyOf Try.f40) ok40 Try.func40 (by kernel_rfl) (Nat.le_of_ble_eq_true (by kernel_rfl)) ?_
    simp (decide := true) (implicitDefEqProofs := false) only [Am.findLoop, Am.loopOf, Am.bodyOf, Am.firstReg, Nat.beq, cond_true, cond_false, Am.splice, Am.walkW, Am.stdW, id, reduceCtorEq, Nat.reduceAdd, Nat.reduceSub, Nat.reduceMul, List.forall_mem_cons, List.forall_mem_nil, false_implies, implies_true, Try.f40, factsOf40, hl0, hsw, hcl, hj, hnm, hex, hrx, accG, accGH, hne, hnr, exp40_func, rch40_func, exp39_box, rch39_box, freeze_nil, freeze_cons, freeze1_O, frzO_row]
end Go.Proofs.Ytcclbkkgpcpikaa

import Derived.Test.YtcclbkkgpcpikaaG9
set_option linter.unusedSimpArgs false
set_option linter.unusedVariables false
namespace Go.Proofs.Ytcclbkkgpcpikaa
open Go.Am
set_option maxRecDepth 100000
noncomputable def metV (i : Nat) : List ByteArray → PV
  | [] => .nils
  | _ :: r => .ref i 0 (r.length + 1) (r.length + 1)
noncomputable def metH : List ByteArray → List Mem
  | [] => []
  | x :: r => [.row ((x :: r).map encS) 1 true]
theorem encS_flat (l : List ByteArray) (z : Nat) (m : Bool) : flatM (.row (l.map encS) z m) = true := by
  apply flat_rows
  intro c hc v hv
  obtain ⟨x, _, rfl⟩ := List.mem_map.1 hc
  simp only [encS, List.mem_cons, List.not_mem_nil, or_false] at hv
  subst hv
  rfl
theorem encS_plain (l : List ByteArray) : ∀ c ∈ l.map encS, ∀ x ∈ c, Plain x := by
  intro c hc v hv
  obtain ⟨x, _, rfl⟩ := List.mem_map.1 hc
  simp only [encS, List.mem_cons, List.not_mem_nil, or_false] at hv
  subst hv
  exact plain_str _
def chkE (met : List ByteArray) (name : ByteArray) : Int := if nameB name = true then if memS name met = true then 7 else 0 else 5
theorem devE_nil (nodes met : List ByteArray) (name : ByteArray) : devE nodes met name [] = chkE met name := by
  simp [devE, chkE, twoSame]
set_option maxHeartbeats 4000000 in
theorem name0_a (N : Mem) (name : ByteArray) (hsz : name.size ≤ reachBytes) : ∃ H', L0.rn 67 [.str name, .ptr 1 0 0] [N, .row [[.nils]] 1 true] = some (.int .i64 (chkE [] name), H') ∧ (chkE [] name = 0 → H' = [N, .row [[.ref 3 0 1 1]] 1 true, .row [[.str name]] 1 true, .row [[.str name]] 1 true]) := by
  have hc := isName_call name hsz
  have hh := has_call .nils [] (.inl ⟨rfl, rfl⟩) name (by simp)
  have key : Holds (L0.rn 67 [.str name, .ptr 1 0 0] [N, .row [[.nils]] 1 true]) (fun r => r.1 = .int .i64 (chkE [] name) ∧ (chkE [] name = 0 → r.2 = [N, .row [[.ref 3 0 1 1]] 1 true, .row [[.str name]] 1 true, .row [[.str name]] 1 true])) := by
    refine rn_rule (fn := Try.f67) (code := bodyOf Try.f67) ok67 Try.func67 (by kernel_rfl) (Nat.le_of_ble_eq_true (by kernel_rfl)) ?_
    cases hn : nameB name with
    | false =>
      simp (decide := true) (implicitDefEqProofs := false) only [Am.findLoop, Am.loopOf, Am.bodyOf, Am.firstReg, Nat.beq, cond_true, cond_false, Am.splice, Am.walkW, Am.stdW, id, reduceCtorEq, Nat.reduceAdd, Nat.reduceSub, Nat.reduceMul, List.forall_mem_cons, List.forall_mem_nil, false_implies, implies_true, Try.f67, factsOf67, hc, hn]
      simp [chkE, hn]
    | true =>
      have hm : memS name [] = false := rfl
      simp (decide := true) (implicitDefEqProofs := false) only [Am.findLoop, Am.loopOf, Am.bodyOf, Am.firstReg, Nat.beq, cond_true, cond_false, Am.splice, Am.walkW, Am.stdW, id, reduceCtorEq, Nat.reduceAdd, Nat.reduceSub, Nat.reduceMul, List.forall_mem_cons, List.forall_mem_nil, false_implies, implies_true, Try.f67, factsOf67, hc, hn, hh, hm, List.replicate_succ, List.replicate_zero, buildSliceM, fillRow, appendF, appendH, src_ref, elemsO_row, headOk_one, appS_nil, appendS, List.isEmpty_cons, Nat.le_refl, List.length_map]
      simp [chkE, hn, hm]
  obtain ⟨⟨v, H'⟩, h1, h2, h3⟩ := key
  simp only at h2 h3
  subst h2
  exact ⟨H', h1, h3⟩
set_option maxHeartbeats 4000000 in
theorem name1_a (N : Mem) (x : ByteArray) (r : List ByteArray) (hl : r.length ≤ 1000) (name : ByteArray) (hsz : name.size ≤ reachBytes) : ∃ H', L0.rn 67 [.str name, .ptr 1 0 0] [N, .row [[.ref 2 0 (r.length + 1) (r.length + 1)]] 1 true, .row (encS x :: r.map encS) 1 true] = some (.int .i64 (chkE (x :: r) name), H') ∧
    (chkE (x :: r) name = 0 → H' = [N, .row [[.ref 4 0 (r.length + 1 + 1) (r.length + 1 + 1)]] 1 true, .dead, .row [[.str name]] 1 true, .row (encS x :: (r.map encS ++ [[.str name]])) 1 true]) := by
  have hc := isName_call name hsz
  have hh := has_call (.lst ((x :: r).map encS)) (x :: r) (.inr rfl) name (by simp [maxLen]; omega)
  have hex : ∀ {z}, z = [N, .row [[.ref 2 0 (r.length + 1) (r.length + 1)]] 1 true, .row (encS x :: r.map encS) 1 true] → exp expFuel z (.ref 2 0 (r.length + 1) (r.length + 1)) = some (.lst ((x :: r).map encS)) := by
    rintro z rfl
    exact exp_row rfl (by simp) (encS_plain (x :: r))
  have hx := hex rfl
  simp only [List.map_cons] at hh hx
  have hnle : ¬ r.length + 1 + 1 ≤ r.length + 1 := by omega
  have hby : (r.length + 1 + 1) * 16 ≤ 140737488355328 := by omega
  have htk : List.take r.length (r.map encS) = r.map encS := List.take_of_length_le (by simp)
  have key : Holds (L0.rn 67 [.str name, .ptr 1 0 0] [N, .row [[.ref 2 0 (r.length + 1) (r.length + 1)]] 1 true, .row (encS x :: r.map encS) 1 true]) (fun q => q.1 = .int .i64 (chkE (x :: r) name) ∧
    (chkE (x :: r) name = 0 → q.2 = [N, .row [[.ref 4 0 (r.length + 1 + 1) (r.length + 1 + 1)]] 1 true, .dead, .row [[.str name]] 1 true, .row (encS x :: (r.map encS ++ [[.str name]])) 1 true])) := by
    refine rn_rule (fn := Try.f67) (code := bodyOf Try.f67) ok67 Try.func67 (by kernel_rfl) (Nat.le_of_ble_eq_true (by kernel_rfl)) ?_
    cases hn : nameB name with
    | false =>
      simp (decide := true) (implicitDefEqProofs := false) only [Am.findLoop, Am.loopOf, Am.bodyOf, Am.firstReg, Nat.beq, cond_true, cond_false, Am.splice, Am.walkW, Am.stdW, id, reduceCtorEq, Nat.reduceAdd, Nat.reduceSub, Nat.reduceMul, List.forall_mem_cons, List.forall_mem_nil, false_implies, implies_true, Try.f67, factsOf67, hc, hn]
      simp [chkE, hn]
    | true =>
      cases hm : memS name (x :: r) with
      | true =>
        simp (decide := true) (implicitDefEqProofs := false) only [Am.findLoop, Am.loopOf, Am.bodyOf, Am.firstReg, Nat.beq, cond_true, cond_false, Am.splice, Am.walkW, Am.stdW, id, reduceCtorEq, Nat.reduceAdd, Nat.reduceSub, Nat.reduceMul, List.forall_mem_cons, List.forall_mem_nil, false_implies, implies_true, Try.f67, factsOf67, hc, hn, hx, hh, hm]
        simp [chkE, hn, hm]
      | false =>
        simp (decide := true) (implicitDefEqProofs := false) only [Am.findLoop, Am.loopOf, Am.bodyOf, Am.firstReg, Nat.beq, cond_true, cond_false, Am.splice, Am.walkW, Am.stdW, id, reduceCtorEq, Nat.reduceAdd, Nat.reduceSub, Nat.reduceMul, List.forall_mem_cons, List.forall_mem_nil, false_implies, implies_true, Try.f67, factsOf67, hc, hn, hx, hh, hm, hnle, hby, htk, List.replicate_succ, List.replicate_zero, buildSliceM, fillRow, appendF, appendH, src_ref, elemsO_row, headOk_one, appS_nil, appendS, List.isEmpty_cons, Nat.le_refl, List.length_map]
        simp [chkE, hn, hm]
  obtain ⟨⟨v, H'⟩, h1, h2, h3⟩ := key
  simp only at h2 h3
  subst h2
  exact ⟨H', h1, h3⟩
set_option maxHeartbeats 4000000 in
theorem name0_b (N T : Mem) (name : ByteArray) (hsz : name.size ≤ reachBytes) : ∃ H', L0.rn 67 [.str name, .ptr 1 0 0] [N, .row [[.nils]] 1 true, T] = some (.int .i64 (chkE [] name), H') ∧ (chkE [] name = 0 → H' = [N, .row [[.ref 4 0 1 1]] 1 true, T, .row [[.str name]] 1 true, .row [[.str name]] 1 true]) := by
  have hc := isName_call name hsz
  have hh := has_call .nils [] (.inl ⟨rfl, rfl⟩) name (by simp)
  have key : Holds (L0.rn 67 [.str name, .ptr 1 0 0] [N, .row [[.nils]] 1 true, T]) (fun r => r.1 = .int .i64 (chkE [] name) ∧ (chkE [] name = 0 → r.2 = [N, .row [[.ref 4 0 1 1]] 1 true, T, .row [[.str name]] 1 true, .row [[.str name]] 1 true])) := by
    refine rn_rule (fn := Try.f67) (code := bodyOf Try.f67) ok67 Try.func67 (by kernel_rfl) (Nat.le_of_ble_eq_true (by kernel_rfl)) ?_
    cases hn : nameB name with
    | false =>
      simp (decide := true) (implicitDefEqProofs := false) only [Am.findLoop, Am.loopOf, Am.bodyOf, Am.firstReg, Nat.beq, cond_true, cond_false, Am.splice, Am.walkW, Am.stdW, id, reduceCtorEq, Nat.reduceAdd, Nat.reduceSub, Nat.reduceMul, List.forall_mem_cons, List.forall_mem_nil, false_implies, implies_true, Try.f67, factsOf67, hc, hn]
      simp [chkE, hn]
    | true =>
      have hm : memS name [] = false := rfl
      simp (decide := true) (implicitDefEqProofs := false) only [Am.findLoop, Am.loopOf, Am.bodyOf, Am.firstReg, Nat.beq, cond_true, cond_false, Am.splice, Am.walkW, Am.stdW, id, reduceCtorEq, Nat.reduceAdd, Nat.reduceSub, Nat.reduceMul, List.forall_mem_cons, List.forall_mem_nil, false_implies, implies_true, Try.f67, factsOf67, hc, hn, hh, hm, List.replicate_succ, List.replicate_zero, buildSliceM, fillRow, appendF, appendH, src_ref, elemsO_row, headOk_one, appS_nil, appendS, List.isEmpty_cons, Nat.le_refl, List.length_map]
      simp [chkE, hn, hm]
  obtain ⟨⟨v, H'⟩, h1, h2, h3⟩ := key
  simp only at h2 h3
  subst h2
  exact ⟨H', h1, h3⟩
set_option maxHeartbeats 4000000 in
theorem name1_b (N T : Mem) (x : ByteArray) (r : List ByteArray) (hl : r.length ≤ 1000) (name : ByteArray) (hsz : name.size ≤ reachBytes) : ∃ H', L0.rn 67 [.str name, .ptr 1 0 0] [N, .row [[.ref 2 0 (r.length + 1) (r.length + 1)]] 1 true, .row (encS x :: r.map encS) 1 true, T] = some (.int .i64 (chkE (x :: r) name), H') ∧
    (chkE (x :: r) name = 0 → H' = [N, .row [[.ref 5 0 (r.length + 1 + 1) (r.length + 1 + 1)]] 1 true, .dead, T, .row [[.str name]] 1 true, .row (encS x :: (r.map encS ++ [[.str name]])) 1 true]) := by
  have hc := isName_call name hsz
  have hh := has_call (.lst ((x :: r).map encS)) (x :: r) (.inr rfl) name (by simp [maxLen]; omega)
  have hex : ∀ {z}, z = [N, .row [[.ref 2 0 (r.length + 1) (r.length + 1)]] 1 true, .row (encS x :: r.map encS) 1 true, T] → exp expFuel z (.ref 2 0 (r.length + 1) (r.length + 1)) = some (.lst ((x :: r).map encS)) := by
    rintro z rfl
    exact exp_row rfl (by simp) (encS_plain (x :: r))
  have hx := hex rfl
  simp only [List.map_cons] at hh hx
  have hnle : ¬ r.length + 1 + 1 ≤ r.length + 1 := by omega
  have hby : (r.length + 1 + 1) * 16 ≤ 140737488355328 := by omega
  have htk : List.take r.length (r.map encS) = r.map encS := List.take_of_length_le (by simp)
  have key : Holds (L0.rn 67 [.str name, .ptr 1 0 0] [N, .row [[.ref 2 0 (r.length + 1) (r.length + 1)]] 1 true, .row (encS x :: r.map encS) 1 true, T]) (fun q => q.1 = .int .i64 (chkE (x :: r) name) ∧
    (chkE (x :: r) name = 0 → q.2 = [N, .row [[.ref 5 0 (r.length + 1 + 1) (r.length + 1 + 1)]] 1 true, .dead, T, .row [[.str name]] 1 true, .row (encS x :: (r.map encS ++ [[.str name]])) 1 true])) := by
    refine rn_rule (fn := Try.f67) (code := bodyOf Try.f67) ok67 Try.func67 (by kernel_rfl) (Nat.le_of_ble_eq_true (by kernel_rfl)) ?_
    cases hn : nameB name with
    | false =>
      simp (decide := true) (implicitDefEqProofs := false) only [Am.findLoop, Am.loopOf, Am.bodyOf, Am.firstReg, Nat.beq, cond_true, cond_false, Am.splice, Am.walkW, Am.stdW, id, reduceCtorEq, Nat.reduceAdd, Nat.reduceSub, Nat.reduceMul, List.forall_mem_cons, List.forall_mem_nil, false_implies, implies_true, Try.f67, factsOf67, hc, hn]
      simp [chkE, hn]
    | true =>
      cases hm : memS name (x :: r) with
      | true =>
        simp (decide := true) (implicitDefEqProofs := false) only [Am.findLoop, Am.loopOf, Am.bodyOf, Am.firstReg, Nat.beq, cond_true, cond_false, Am.splice, Am.walkW, Am.stdW, id, reduceCtorEq, Nat.reduceAdd, Nat.reduceSub, Nat.reduceMul, List.forall_mem_cons, List.forall_mem_nil, false_implies, implies_true, Try.f67, factsOf67, hc, hn, hx, hh, hm]
        simp [chkE, hn, hm]
      | false =>
        simp (decide := true) (implicitDefEqProofs := false) only [Am.findLoop, Am.loopOf, Am.bodyOf, Am.firstReg, Nat.beq, cond_true, cond_false, Am.splice, Am.walkW, Am.stdW, id, reduceCtorEq, Nat.reduceAdd, Nat.reduceSub, Nat.reduceMul, List.forall_mem_cons, List.forall_mem_nil, false_implies, implies_true, Try.f67, factsOf67, hc, hn, hx, hh, hm, hnle, hby, htk, List.replicate_succ, List.replicate_zero, buildSliceM, fillRow, appendF, appendH, src_ref, elemsO_row, headOk_one, appS_nil, appendS, List.isEmpty_cons, Nat.le_refl, List.length_map]
        simp [chkE, hn, hm]
  obtain ⟨⟨v, H'⟩, h1, h2, h3⟩ := key
  simp only at h2 h3
  subst h2
  exact ⟨H', h1, h3⟩
end Go.Proofs.Ytcclbkkgpcpikaa

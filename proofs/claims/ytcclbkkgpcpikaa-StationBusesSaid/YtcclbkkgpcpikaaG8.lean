import Derived.Test.YtcclbkkgpcpikaaG7
import Derived.Test.YtcclbkkgpcpikaaAmC
set_option linter.unusedSimpArgs false
set_option linter.unusedVariables false
namespace Go.Proofs.Ytcclbkkgpcpikaa
open Go.Am
set_option maxRecDepth 100000
def encIt (x : Item) : List PV := [.str x.name, .lst (x.ns.map encS), .bool (decide (x.ns.length = 2)), .bool x.bad]
noncomputable def accV (i : Nat) : List Item → PV
  | [] => .nils
  | x :: r => .ref i 0 (r.length + 1) (r.length + 1)
noncomputable def accH : List Item → List Mem
  | [] => []
  | x :: r => [.row ((x :: r).map encIt) 4 true]
theorem encIt_flat (l : List Item) (z : Nat) (m : Bool) : flatM (.row (l.map encIt) z m) = true := by
  apply flat_rows
  intro c hc v hv
  obtain ⟨x, _, rfl⟩ := List.mem_map.1 hc
  simp only [encIt, List.mem_cons, List.not_mem_nil, or_false] at hv
  rcases hv with rfl | rfl | rfl | rfl <;> rfl
noncomputable def canonItm (q0 q1 q2 q3 q4 q5 : PV) (a b c : Nat) (q : PV) (len i : Nat) (acc : List Item) : St :=
  ⟨[(1, .ptr 0 0 0), (3, accV 1 acc), (a, q), (b, .int .i64 len), (c, .int .i64 i)], .row [[q0, q1, q2, q3, q4, q5]] 6 true :: accH acc⟩
noncomputable def canonItz (a b c : Nat) (q : PV) (len i : Nat) (acc : List Item) : St :=
  ⟨[(3, accV 0 acc), (a, q), (b, .int .i64 len), (c, .int .i64 i)], accH acc⟩
def postItm (q0 q1 q2 q3 q4 q5 : PV) (a b c t ex : Nat) (q : PV) (len : Nat) (full : List Item) (r : Ex × St) : Prop := r = (.exit ex, ⟨(t, .bool false) :: (canonItm q0 q1 q2 q3 q4 q5 a b c q len len full).tm, (canonItm q0 q1 q2 q3 q4 q5 a b c q len len full).hp⟩)
def postItz (a b c t ex : Nat) (q : PV) (len : Nat) (full : List Item) (r : Ex × St) : Prop := r = (.exit ex, ⟨(t, .bool false) :: (canonItz a b c q len len full).tm, (canonItz a b c q len len full).hp⟩)
theorem branchE_bad (x : Br) : (!decide (branchE x = 0)) = branchBad x := by
  unfold branchE
  cases branchBad x <;> rfl
set_option maxHeartbeats 8000000 in
theorem items_sw (n : Net) (q0 q1 q2 q3 q4 q5 : PV) (hq : NetQ n q0 q1 q2 q3 q4 q5) (hl : n.sw.length ≤ 32) : ∀ (a : Nat × List Item) (t : St), (a.1 ≤ n.sw.length ∧ a.2.length ≤ 100 + a.1) →
    maskK (hints.keep 68 (firstReg (loopOf Try.f68 3))) ⟨68, 0, 145⟩ t = some (canonItm q0 q1 q2 q3 q4 q5 15 16 17 q1 n.sw.length a.1 (a.2)) →
    Holds (L0.ex ⟨68, 0, 145⟩ (.loop (loopOf Try.f68 3)) t) (postItm q0 q1 q2 q3 q4 q5 15 16 17 18 0 q1 n.sw.length (a.2 ++ (n.sw.drop a.1).map swIt)) := by
  refine loop_rule (σ := Nat × List Item) (c := ⟨68, 0, 145⟩) (b := loopOf Try.f68 3) (fun a => canonItm q0 q1 q2 q3 q4 q5 15 16 17 q1 n.sw.length a.1 (a.2)) (fun a => a.1 ≤ n.sw.length ∧ a.2.length ≤ 100 + a.1) (fun a => n.sw.length - a.1) _ ?_
  rintro ⟨i, acc⟩ ⟨hi, hacc⟩
  simp only at hi hacc
  obtain ⟨a1, a2, a3, a4, a5, a6, a7⟩ := hq.h0.ids
  obtain ⟨b1, b2, b3, b4, b5, b6, b7⟩ := hq.h1.ids
  obtain ⟨c1, c2, c3, c4, c5, c6, c7⟩ := hq.h2.ids
  obtain ⟨d1, d2, d3, d4, d5, d6, d7⟩ := hq.h3.ids
  obtain ⟨e1, e2, e3, e4, e5, e6, e7⟩ := hq.h4.ids
  obtain ⟨f1, f2, f3, f4, f5, f6, f7⟩ := hq.h5.ids
  by_cases hlt : i < n.sw.length
  · have hix := fun H => index_sl (P := Try.prog) (H := H) hq.h1 slZ42 (k := .i64) (j := i) (by omega) (encSw_get hlt) rfl
    have hlt' : decide ((i : Int) < n.sw.length) = true := decide_eq_true (by omega)
    have hw : IntKind.i64.wrap ((i : Int) + 1) = ((i + 1 : Nat) : Int) := wrap64 (by omega) (by omega)
    have hdrop : (n.sw.drop i).map swIt = swIt n.sw[i] :: (n.sw.drop (i + 1)).map swIt := by rw [List.drop_eq_getElem_cons hlt]; rfl
    generalize hsx : n.sw[i] = x at hix hdrop
    simp only [encSw] at hix
    have hres : acc ++ (n.sw.drop i).map swIt = (acc ++ [swIt x]) ++ (n.sw.drop (i + 1)).map swIt := by rw [hdrop]; simp
    have eit : encIt (swIt x) = [PV.str x.name, PV.lst [[.str x.a], [.str x.b]], PV.bool true, PV.bool (false)] := rfl
    cases acc with
    | nil =>
      have hfl := encIt_flat [swIt x] 4 true
      simp only [List.map_cons, List.map_nil, eit] at hfl
      simp (decide := true) (implicitDefEqProofs := false) only [Am.findLoop, Am.loopOf, Am.bodyOf, Am.firstReg, Nat.beq, cond_true, cond_false, Am.splice, Am.walkW, Am.stdW, id, reduceCtorEq, Nat.reduceAdd, Nat.reduceSub, Nat.reduceMul, List.forall_mem_cons, List.forall_mem_nil, false_implies, implies_true, Try.f68, factsOf68, canonItm, accV, accH, hix, hlt', hw, keep68_3, appS_nil, hfl, encS, List.replicate_succ, List.replicate_zero, buildSliceM, fillRow, fillAgg, build_struct, appendF, exp40_ref, exp39_ref, exp39_str, exp39_bool, exp39_int, exp38_str, rowC_row, rch40_ref, rch39_ref, rch39_str, rch39_bool, rch38_str, rchO_row, freeze_cons, freeze1_O, frzO_row, appendH, src_lst, headOk_one, Bool.not_not, List.length_map, Nat.le_refl, a1, a2, a3, a4, a5, a6, b1, b2, b3, b4, b5, b6, c1, c2, c3, c4, c5, c6, d1, d2, d3, d4, d5, d6, e1, e2, e3, e4, e5, e6, f1, f2, f3, f4, f5, f6, a7, b7, c7, d7, e7, f7, exp_agg, plain_str, plain_int, Am.compactK, Am.idsT, Am.closeStep, Am.keepW, Am.kstdW]
      repeat' ((first | (simp (implicitDefEqProofs := false) only [Am.runG_not, Am.condK_not, Am.pickV_not]; split) | (simp (implicitDefEqProofs := false) only [Am.runG_bool, Am.condK_bool, Am.pickV_bool]; split) | split) <;> (try simp (implicitDefEqProofs := false) only [Am.runGT_eq, Am.runGF_eq, Am.exH_eq]) <;> try simp (decide := true) (implicitDefEqProofs := false) only [Am.findLoop, Am.loopOf, Am.bodyOf, Am.firstReg, Nat.beq, cond_true, cond_false, Am.splice, Am.walkW, Am.stdW, id, reduceCtorEq, Nat.reduceAdd, Nat.reduceSub, Nat.reduceMul, List.forall_mem_cons, List.forall_mem_nil, false_implies, implies_true, Try.f68, factsOf68, canonItm, accV, accH, hix, hlt', hw, keep68_3, appS_nil, hfl, encS, List.replicate_succ, List.replicate_zero, buildSliceM, fillRow, fillAgg, build_struct, appendF, exp40_ref, exp39_ref, exp39_str, exp39_bool, exp39_int, exp38_str, rowC_row, rch40_ref, rch39_ref, rch39_str, rch39_bool, rch38_str, rchO_row, freeze_cons, freeze1_O, frzO_row, appendH, src_lst, headOk_one, Bool.not_not, List.length_map, Nat.le_refl, a1, a2, a3, a4, a5, a6, b1, b2, b3, b4, b5, b6, c1, c2, c3, c4, c5, c6, d1, d2, d3, d4, d5, d6, e1, e2, e3, e4, e5, e6, f1, f2, f3, f4, f5, f6, a7, b7, c7, d7, e7, f7, exp_agg, plain_str, plain_int, Am.compactK, Am.idsT, Am.closeStep, Am.keepW, Am.kstdW, *])
      all_goals exact ⟨(i + 1, [] ++ [swIt x]), by simp only [canonItm, accV, accH, List.cons_append, List.nil_append, List.map_cons, List.map_append, List.map_nil, eit, List.length_append, List.length_cons, List.length_nil], ⟨hlt, by simp at hacc ⊢; omega⟩, by simp only; omega, fun r hr => (show postItm q0 q1 q2 q3 q4 q5 15 16 17 18 0 q1 n.sw.length ([] ++ (n.sw.drop i).map swIt) r from by rw [hres]; exact hr)⟩
    | cons y acc =>
      have hfl := encIt_flat ((y :: acc) ++ [swIt x]) 4 true
      have hfl0 := encIt_flat (y :: acc) 4 true
      simp only [List.cons_append, List.map_cons, List.map_nil, List.map_append, eit] at hfl hfl0
      have hlacc : acc.length ≤ 200 := by simp at hacc; omega
      have hnle : ¬ acc.length + 1 + 1 ≤ acc.length + 1 := by omega
      have hby : (acc.length + 1 + 1) * 48 ≤ 140737488355328 := by omega
      have htk : List.take acc.length (List.map encIt acc) = List.map encIt acc := List.take_of_length_le (by simp)
      simp (decide := true) (implicitDefEqProofs := false) only [Am.findLoop, Am.loopOf, Am.bodyOf, Am.firstReg, Nat.beq, cond_true, cond_false, Am.splice, Am.walkW, Am.stdW, id, reduceCtorEq, Nat.reduceAdd, Nat.reduceSub, Nat.reduceMul, List.forall_mem_cons, List.forall_mem_nil, false_implies, implies_true, Try.f68, factsOf68, canonItm, accV, accH, hix, hlt', hw, keep68_3, appendS, List.isEmpty_cons, hnle, hby, htk, hfl, hfl0, encS, List.replicate_succ, List.replicate_zero, buildSliceM, fillRow, fillAgg, build_struct, appendF, exp40_ref, exp39_ref, exp39_str, exp39_bool, exp39_int, exp38_str, rowC_row, rch40_ref, rch39_ref, rch39_str, rch39_bool, rch38_str, rchO_row, freeze_cons, freeze1_O, frzO_row, appendH, src_lst, headOk_one, Bool.not_not, List.length_map, Nat.le_refl, a1, a2, a3, a4, a5, a6, b1, b2, b3, b4, b5, b6, c1, c2, c3, c4, c5, c6, d1, d2, d3, d4, d5, d6, e1, e2, e3, e4, e5, e6, f1, f2, f3, f4, f5, f6, a7, b7, c7, d7, e7, f7, exp_agg, plain_str, plain_int, Am.compactK, Am.idsT, Am.closeStep, Am.keepW, Am.kstdW]
      repeat' ((first | (simp (implicitDefEqProofs := false) only [Am.runG_not, Am.condK_not, Am.pickV_not]; split) | (simp (implicitDefEqProofs := false) only [Am.runG_bool, Am.condK_bool, Am.pickV_bool]; split) | split) <;> (try simp (implicitDefEqProofs := false) only [Am.runGT_eq, Am.runGF_eq, Am.exH_eq]) <;> try simp (decide := true) (implicitDefEqProofs := false) only [Am.findLoop, Am.loopOf, Am.bodyOf, Am.firstReg, Nat.beq, cond_true, cond_false, Am.splice, Am.walkW, Am.stdW, id, reduceCtorEq, Nat.reduceAdd, Nat.reduceSub, Nat.reduceMul, List.forall_mem_cons, List.forall_mem_nil, false_implies, implies_true, Try.f68, factsOf68, canonItm, accV, accH, hix, hlt', hw, keep68_3, appendS, List.isEmpty_cons, hnle, hby, htk, hfl, hfl0, encS, List.replicate_succ, List.replicate_zero, buildSliceM, fillRow, fillAgg, build_struct, appendF, exp40_ref, exp39_ref, exp39_str, exp39_bool, exp39_int, exp38_str, rowC_row, rch40_ref, rch39_ref, rch39_str, rch39_bool, rch38_str, rchO_row, freeze_cons, freeze1_O, frzO_row, appendH, src_lst, headOk_one, Bool.not_not, List.length_map, Nat.le_refl, a1, a2, a3, a4, a5, a6, b1, b2, b3, b4, b5, b6, c1, c2, c3, c4, c5, c6, d1, d2, d3, d4, d5, d6, e1, e2, e3, e4, e5, e6, f1, f2, f3, f4, f5, f6, a7, b7, c7, d7, e7, f7, exp_agg, plain_str, plain_int, Am.compactK, Am.idsT, Am.closeStep, Am.keepW, Am.kstdW, *])
      clear a1 a2 a3 a4 a5 a6 a7 b1 b2 b3 b4 b5 b6 b7 c1 c2 c3 c4 c5 c6 c7 d1 d2 d3 d4 d5 d6 d7 e1 e2 e3 e4 e5 e6 e7 f1 f2 f3 f4 f5 f6 f7
      all_goals exact ⟨(i + 1, (y :: acc) ++ [swIt x]), by simp only [canonItm, accV, accH, List.cons_append, List.nil_append, List.map_cons, List.map_append, List.map_nil, eit, List.length_append, List.length_cons, List.length_nil], ⟨hlt, by simp at hacc ⊢; omega⟩, by simp only; omega, fun r hr => (show postItm q0 q1 q2 q3 q4 q5 15 16 17 18 0 q1 n.sw.length ((y :: acc) ++ (n.sw.drop i).map swIt) r from by rw [hres]; exact hr)⟩
  · have hlt' : decide ((i : Int) < n.sw.length) = false := decide_eq_false (by omega)
    have e : i = n.sw.length := by omega
    simp (decide := true) (implicitDefEqProofs := false) only [Am.findLoop, Am.loopOf, Am.bodyOf, Am.firstReg, Nat.beq, cond_true, cond_false, Am.splice, Am.walkW, Am.stdW, id, reduceCtorEq, Nat.reduceAdd, Nat.reduceSub, Nat.reduceMul, List.forall_mem_cons, List.forall_mem_nil, false_implies, implies_true, Try.f68, factsOf68, canonItm, hlt']
    rw [e, List.drop_length, List.map_nil, List.append_nil]
    rfl
set_option maxHeartbeats 8000000 in
theorem items_br (n : Net) (q0 q1 q2 q3 q4 q5 : PV) (hq : NetQ n q0 q1 q2 q3 q4 q5) (hl : n.br.length ≤ 24) : ∀ (a : Nat × List Item) (t : St), (a.1 ≤ n.br.length ∧ a.2.length ≤ 100 + a.1) →
    maskK (hints.keep 68 (firstReg (loopOf Try.f68 8))) ⟨68, 0, 145⟩ t = some (canonItm q0 q1 q2 q3 q4 q5 34 35 36 q2 n.br.length a.1 (a.2)) →
    Holds (L0.ex ⟨68, 0, 145⟩ (.loop (loopOf Try.f68 8)) t) (postItm q0 q1 q2 q3 q4 q5 34 35 36 37 2 q2 n.br.length (a.2 ++ (n.br.drop a.1).map brIt)) := by
  refine loop_rule (σ := Nat × List Item) (c := ⟨68, 0, 145⟩) (b := loopOf Try.f68 8) (fun a => canonItm q0 q1 q2 q3 q4 q5 34 35 36 q2 n.br.length a.1 (a.2)) (fun a => a.1 ≤ n.br.length ∧ a.2.length ≤ 100 + a.1) (fun a => n.br.length - a.1) _ ?_
  rintro ⟨i, acc⟩ ⟨hi, hacc⟩
  simp only at hi hacc
  obtain ⟨a1, a2, a3, a4, a5, a6, a7⟩ := hq.h0.ids
  obtain ⟨b1, b2, b3, b4, b5, b6, b7⟩ := hq.h1.ids
  obtain ⟨c1, c2, c3, c4, c5, c6, c7⟩ := hq.h2.ids
  obtain ⟨d1, d2, d3, d4, d5, d6, d7⟩ := hq.h3.ids
  obtain ⟨e1, e2, e3, e4, e5, e6, e7⟩ := hq.h4.ids
  obtain ⟨f1, f2, f3, f4, f5, f6, f7⟩ := hq.h5.ids
  by_cases hlt : i < n.br.length
  · have hix := fun H => index_sl (P := Try.prog) (H := H) hq.h2 slZ43 (k := .i64) (j := i) (by omega) (encB_get hlt) rfl
    have hlt' : decide ((i : Int) < n.br.length) = true := decide_eq_true (by omega)
    have hw : IntKind.i64.wrap ((i : Int) + 1) = ((i + 1 : Nat) : Int) := wrap64 (by omega) (by omega)
    have hdrop : (n.br.drop i).map brIt = brIt n.br[i] :: (n.br.drop (i + 1)).map brIt := by rw [List.drop_eq_getElem_cons hlt]; rfl
    generalize hsx : n.br[i] = x at hix hdrop
    simp only [encB] at hix
    have hres : acc ++ (n.br.drop i).map brIt = (acc ++ [brIt x]) ++ (n.br.drop (i + 1)).map brIt := by rw [hdrop]; simp
    have eit : encIt (brIt x) = [PV.str x.name, PV.lst [[.str x.fr], [.str x.to]], PV.bool true, PV.bool (branchBad x)] := rfl
    have hbc := branchError_call x
    simp only [encB] at hbc
    cases acc with
    | nil =>
      have hfl := encIt_flat [brIt x] 4 true
      simp only [List.map_cons, List.map_nil, eit] at hfl
      simp (decide := true) (implicitDefEqProofs := false) only [Am.findLoop, Am.loopOf, Am.bodyOf, Am.firstReg, Nat.beq, cond_true, cond_false, Am.splice, Am.walkW, Am.stdW, id, reduceCtorEq, Nat.reduceAdd, Nat.reduceSub, Nat.reduceMul, List.forall_mem_cons, List.forall_mem_nil, false_implies, implies_true, Try.f68, factsOf68, canonItm, accV, accH, hix, hlt', hw, keep68_8, appS_nil, hfl, hbc, branchE_bad, List.replicate_succ, List.replicate_zero, buildSliceM, fillRow, fillAgg, build_struct, appendF, exp40_ref, exp39_ref, exp39_str, exp39_bool, exp39_int, exp38_str, rowC_row, rch40_ref, rch39_ref, rch39_str, rch39_bool, rch38_str, rchO_row, freeze_cons, freeze1_O, frzO_row, appendH, src_lst, headOk_one, Bool.not_not, List.length_map, Nat.le_refl, a1, a2, a3, a4, a5, a6, b1, b2, b3, b4, b5, b6, c1, c2, c3, c4, c5, c6, d1, d2, d3, d4, d5, d6, e1, e2, e3, e4, e5, e6, f1, f2, f3, f4, f5, f6, a7, b7, c7, d7, e7, f7, exp_agg, plain_str, plain_int, Am.compactK, Am.idsT, Am.closeStep, Am.keepW, Am.kstdW]
      repeat' ((first | (simp (implicitDefEqProofs := false) only [Am.runG_not, Am.condK_not, Am.pickV_not]; split) | (simp (implicitDefEqProofs := false) only [Am.runG_bool, Am.condK_bool, Am.pickV_bool]; split) | split) <;> (try simp (implicitDefEqProofs := false) only [Am.runGT_eq, Am.runGF_eq, Am.exH_eq]) <;> try simp (decide := true) (implicitDefEqProofs := false) only [Am.findLoop, Am.loopOf, Am.bodyOf, Am.firstReg, Nat.beq, cond_true, cond_false, Am.splice, Am.walkW, Am.stdW, id, reduceCtorEq, Nat.reduceAdd, Nat.reduceSub, Nat.reduceMul, List.forall_mem_cons, List.forall_mem_nil, false_implies, implies_true, Try.f68, factsOf68, canonItm, accV, accH, hix, hlt', hw, keep68_8, appS_nil, hfl, hbc, branchE_bad, List.replicate_succ, List.replicate_zero, buildSliceM, fillRow, fillAgg, build_struct, appendF, exp40_ref, exp39_ref, exp39_str, exp39_bool, exp39_int, exp38_str, rowC_row, rch40_ref, rch39_ref, rch39_str, rch39_bool, rch38_str, rchO_row, freeze_cons, freeze1_O, frzO_row, appendH, src_lst, headOk_one, Bool.not_not, List.length_map, Nat.le_refl, a1, a2, a3, a4, a5, a6, b1, b2, b3, b4, b5, b6, c1, c2, c3, c4, c5, c6, d1, d2, d3, d4, d5, d6, e1, e2, e3, e4, e5, e6, f1, f2, f3, f4, f5, f6, a7, b7, c7, d7, e7, f7, exp_agg, plain_str, plain_int, Am.compactK, Am.idsT, Am.closeStep, Am.keepW, Am.kstdW, *])
      all_goals exact ⟨(i + 1, [] ++ [brIt x]), by simp only [canonItm, accV, accH, List.cons_append, List.nil_append, List.map_cons, List.map_append, List.map_nil, eit, List.length_append, List.length_cons, List.length_nil], ⟨hlt, by simp at hacc ⊢; omega⟩, by simp only; omega, fun r hr => (show postItm q0 q1 q2 q3 q4 q5 34 35 36 37 2 q2 n.br.length ([] ++ (n.br.drop i).map brIt) r from by rw [hres]; exact hr)⟩
    | cons y acc =>
      have hfl := encIt_flat ((y :: acc) ++ [brIt x]) 4 true
      have hfl0 := encIt_flat (y :: acc) 4 true
      simp only [List.cons_append, List.map_cons, List.map_nil, List.map_append, eit] at hfl hfl0
      have hlacc : acc.length ≤ 200 := by simp at hacc; omega
      have hnle : ¬ acc.length + 1 + 1 ≤ acc.length + 1 := by omega
      have hby : (acc.length + 1 + 1) * 48 ≤ 140737488355328 := by omega
      have htk : List.take acc.length (List.map encIt acc) = List.map encIt acc := List.take_of_length_le (by simp)
      simp (decide := true) (implicitDefEqProofs := false) only [Am.findLoop, Am.loopOf, Am.bodyOf, Am.firstReg, Nat.beq, cond_true, cond_false, Am.splice, Am.walkW, Am.stdW, id, reduceCtorEq, Nat.reduceAdd, Nat.reduceSub, Nat.reduceMul, List.forall_mem_cons, List.forall_mem_nil, false_implies, implies_true, Try.f68, factsOf68, canonItm, accV, accH, hix, hlt', hw, keep68_8, appendS, List.isEmpty_cons, hnle, hby, htk, hfl, hfl0, hbc, branchE_bad, List.replicate_succ, List.replicate_zero, buildSliceM, fillRow, fillAgg, build_struct, appendF, exp40_ref, exp39_ref, exp39_str, exp39_bool, exp39_int, exp38_str, rowC_row, rch40_ref, rch39_ref, rch39_str, rch39_bool, rch38_str, rchO_row, freeze_cons, freeze1_O, frzO_row, appendH, src_lst, headOk_one, Bool.not_not, List.length_map, Nat.le_refl, a1, a2, a3, a4, a5, a6, b1, b2, b3, b4, b5, b6, c1, c2, c3, c4, c5, c6, d1, d2, d3, d4, d5, d6, e1, e2, e3, e4, e5, e6, f1, f2, f3, f4, f5, f6, a7, b7, c7, d7, e7, f7, exp_agg, plain_str, plain_int, Am.compactK, Am.idsT, Am.closeStep, Am.keepW, Am.kstdW]
      repeat' ((first | (simp (implicitDefEqProofs := false) only [Am.runG_not, Am.condK_not, Am.pickV_not]; split) | (simp (implicitDefEqProofs := false) only [Am.runG_bool, Am.condK_bool, Am.pickV_bool]; split) | split) <;> (try simp (implicitDefEqProofs := false) only [Am.runGT_eq, Am.runGF_eq, Am.exH_eq]) <;> try simp (decide := true) (implicitDefEqProofs := false) only [Am.findLoop, Am.loopOf, Am.bodyOf, Am.firstReg, Nat.beq, cond_true, cond_false, Am.splice, Am.walkW, Am.stdW, id, reduceCtorEq, Nat.reduceAdd, Nat.reduceSub, Nat.reduceMul, List.forall_mem_cons, List.forall_mem_nil, false_implies, implies_true, Try.f68, factsOf68, canonItm, accV, accH, hix, hlt', hw, keep68_8, appendS, List.isEmpty_cons, hnle, hby, htk, hfl, hfl0, hbc, branchE_bad, List.replicate_succ, List.replicate_zero, buildSliceM, fillRow, fillAgg, build_struct, appendF, exp40_ref, exp39_ref, exp39_str, exp39_bool, exp39_int, exp38_str, rowC_row, rch40_ref, rch39_ref, rch39_str, rch39_bool, rch38_str, rchO_row, freeze_cons, freeze1_O, frzO_row, appendH, src_lst, headOk_one, Bool.not_not, List.length_map, Nat.le_refl, a1, a2, a3, a4, a5, a6, b1, b2, b3, b4, b5, b6, c1, c2, c3, c4, c5, c6, d1, d2, d3, d4, d5, d6, e1, e2, e3, e4, e5, e6, f1, f2, f3, f4, f5, f6, a7, b7, c7, d7, e7, f7, exp_agg, plain_str, plain_int, Am.compactK, Am.idsT, Am.closeStep, Am.keepW, Am.kstdW, *])
      clear a1 a2 a3 a4 a5 a6 a7 b1 b2 b3 b4 b5 b6 b7 c1 c2 c3 c4 c5 c6 c7 d1 d2 d3 d4 d5 d6 d7 e1 e2 e3 e4 e5 e6 e7 f1 f2 f3 f4 f5 f6 f7
      all_goals exact ⟨(i + 1, (y :: acc) ++ [brIt x]), by simp only [canonItm, accV, accH, List.cons_append, List.nil_append, List.map_cons, List.map_append, List.map_nil, eit, List.length_append, List.length_cons, List.length_nil], ⟨hlt, by simp at hacc ⊢; omega⟩, by simp only; omega, fun r hr => (show postItm q0 q1 q2 q3 q4 q5 34 35 36 37 2 q2 n.br.length ((y :: acc) ++ (n.br.drop i).map brIt) r from by rw [hres]; exact hr)⟩
  · have hlt' : decide ((i : Int) < n.br.length) = false := decide_eq_false (by omega)
    have e : i = n.br.length := by omega
    simp (decide := true) (implicitDefEqProofs := false) only [Am.findLoop, Am.loopOf, Am.bodyOf, Am.firstReg, Nat.beq, cond_true, cond_false, Am.splice, Am.walkW, Am.stdW, id, reduceCtorEq, Nat.reduceAdd, Nat.reduceSub, Nat.reduceMul, List.forall_mem_cons, List.forall_mem_nil, false_implies, implies_true, Try.f68, factsOf68, canonItm, hlt']
    rw [e, List.drop_length, List.map_nil, List.append_nil]
    rfl
set_option maxHeartbeats 8000000 in
theorem items_gn (n : Net) (q0 q1 q2 q3 q4 q5 : PV) (hq : NetQ n q0 q1 q2 q3 q4 q5) (hl : n.gn.length ≤ 10) : ∀ (a : Nat × List Item) (t : St), (a.1 ≤ n.gn.length ∧ a.2.length ≤ 100 + a.1) →
    maskK (hints.keep 68 (firstReg (loopOf Try.f68 13))) ⟨68, 0, 145⟩ t = some (canonItm q0 q1 q2 q3 q4 q5 56 57 58 q3 n.gn.length a.1 (a.2)) →
    Holds (L0.ex ⟨68, 0, 145⟩ (.loop (loopOf Try.f68 13)) t) (postItm q0 q1 q2 q3 q4 q5 56 57 58 59 4 q3 n.gn.length (a.2 ++ (n.gn.drop a.1).map gnIt)) := by
  refine loop_rule (σ := Nat × List Item) (c := ⟨68, 0, 145⟩) (b := loopOf Try.f68 13) (fun a => canonItm q0 q1 q2 q3 q4 q5 56 57 58 q3 n.gn.length a.1 (a.2)) (fun a => a.1 ≤ n.gn.length ∧ a.2.length ≤ 100 + a.1) (fun a => n.gn.length - a.1) _ ?_
  rintro ⟨i, acc⟩ ⟨hi, hacc⟩
  simp only at hi hacc
  obtain ⟨a1, a2, a3, a4, a5, a6, a7⟩ := hq.h0.ids
  obtain ⟨b1, b2, b3, b4, b5, b6, b7⟩ := hq.h1.ids
  obtain ⟨c1, c2, c3, c4, c5, c6, c7⟩ := hq.h2.ids
  obtain ⟨d1, d2, d3, d4, d5, d6, d7⟩ := hq.h3.ids
  obtain ⟨e1, e2, e3, e4, e5, e6, e7⟩ := hq.h4.ids
  obtain ⟨f1, f2, f3, f4, f5, f6, f7⟩ := hq.h5.ids
  by_cases hlt : i < n.gn.length
  · have hix := fun H => index_sl (P := Try.prog) (H := H) hq.h3 slZ44 (k := .i64) (j := i) (by omega) (encGn_get hlt) rfl
    have hlt' : decide ((i : Int) < n.gn.length) = true := decide_eq_true (by omega)
    have hw : IntKind.i64.wrap ((i : Int) + 1) = ((i + 1 : Nat) : Int) := wrap64 (by omega) (by omega)
    have hdrop : (n.gn.drop i).map gnIt = gnIt n.gn[i] :: (n.gn.drop (i + 1)).map gnIt := by rw [List.drop_eq_getElem_cons hlt]; rfl
    generalize hsx : n.gn[i] = x at hix hdrop
    simp only [encGn] at hix
    have hres : acc ++ (n.gn.drop i).map gnIt = (acc ++ [gnIt x]) ++ (n.gn.drop (i + 1)).map gnIt := by rw [hdrop]; simp
    have eit : encIt (gnIt x) = [PV.str x.name, PV.lst [[.str x.node]], PV.bool false, PV.bool (outB x.least 0 100000 || outB x.most x.least 100000 || outB x.ramp 0 100000)] := rfl
    cases hb1 : outB x.least 0 100000 <;> cases hb2 : outB x.most x.least 100000 <;> cases hb3 : outB x.ramp 0 100000 <;> simp only [hb1, hb2, hb3, Bool.or_false, Bool.or_true, Bool.false_or, Bool.true_or] at eit
    all_goals
      cases acc with
      | nil =>
        have hfl := encIt_flat [gnIt x] 4 true
        simp only [List.map_cons, List.map_nil, eit] at hfl
        simp (decide := true) (implicitDefEqProofs := false) only [Am.findLoop, Am.loopOf, Am.bodyOf, Am.firstReg, Nat.beq, cond_true, cond_false, Am.splice, Am.walkW, Am.stdW, id, reduceCtorEq, Nat.reduceAdd, Nat.reduceSub, Nat.reduceMul, List.forall_mem_cons, List.forall_mem_nil, false_implies, implies_true, Try.f68, factsOf68, canonItm, accV, accH, hix, hlt', hw, keep68_13, appS_nil, hfl, in_call', hb1, hb2, hb3, List.replicate_succ, List.replicate_zero, buildSliceM, fillRow, fillAgg, build_struct, appendF, exp40_ref, exp39_ref, exp39_str, exp39_bool, exp39_int, exp38_str, rowC_row, rch40_ref, rch39_ref, rch39_str, rch39_bool, rch38_str, rchO_row, freeze_cons, freeze1_O, frzO_row, appendH, src_lst, headOk_one, Bool.not_not, List.length_map, Nat.le_refl, a1, a2, a3, a4, a5, a6, b1, b2, b3, b4, b5, b6, c1, c2, c3, c4, c5, c6, d1, d2, d3, d4, d5, d6, e1, e2, e3, e4, e5, e6, f1, f2, f3, f4, f5, f6, a7, b7, c7, d7, e7, f7, exp_agg, plain_str, plain_int, Am.compactK, Am.idsT, Am.closeStep, Am.keepW, Am.kstdW]
        repeat' ((first | (simp (implicitDefEqProofs := false) only [Am.runG_not, Am.condK_not, Am.pickV_not]; split) | (simp (implicitDefEqProofs := false) only [Am.runG_bool, Am.condK_bool, Am.pickV_bool]; split) | split) <;> (try simp (implicitDefEqProofs := false) only [Am.runGT_eq, Am.runGF_eq, Am.exH_eq]) <;> try simp (decide := true) (implicitDefEqProofs := false) only [Am.findLoop, Am.loopOf, Am.bodyOf, Am.firstReg, Nat.beq, cond_true, cond_false, Am.splice, Am.walkW, Am.stdW, id, reduceCtorEq, Nat.reduceAdd, Nat.reduceSub, Nat.reduceMul, List.forall_mem_cons, List.forall_mem_nil, false_implies, implies_true, Try.f68, factsOf68, canonItm, accV, accH, hix, hlt', hw, keep68_13, appS_nil, hfl, in_call', hb1, hb2, hb3, List.replicate_succ, List.replicate_zero, buildSliceM, fillRow, fillAgg, build_struct, appendF, exp40_ref, exp39_ref, exp39_str, exp39_bool, exp39_int, exp38_str, rowC_row, rch40_ref, rch39_ref, rch39_str, rch39_bool, rch38_str, rchO_row, freeze_cons, freeze1_O, frzO_row, appendH, src_lst, headOk_one, Bool.not_not, List.length_map, Nat.le_refl, a1, a2, a3, a4, a5, a6, b1, b2, b3, b4, b5, b6, c1, c2, c3, c4, c5, c6, d1, d2, d3, d4, d5, d6, e1, e2, e3, e4, e5, e6, f1, f2, f3, f4, f5, f6, a7, b7, c7, d7, e7, f7, exp_agg, plain_str, plain_int, Am.compactK, Am.idsT, Am.closeStep, Am.keepW, Am.kstdW, *])
        all_goals exact ⟨(i + 1, [] ++ [gnIt x]), by simp only [canonItm, accV, accH, List.cons_append, List.nil_append, List.map_cons, List.map_append, List.map_nil, eit, List.length_append, List.length_cons, List.length_nil], ⟨hlt, by simp at hacc ⊢; omega⟩, by simp only; omega, fun r hr => (show postItm q0 q1 q2 q3 q4 q5 56 57 58 59 4 q3 n.gn.length ([] ++ (n.gn.drop i).map gnIt) r from by rw [hres]; exact hr)⟩
      | cons y acc =>
        have hfl := encIt_flat ((y :: acc) ++ [gnIt x]) 4 true
        have hfl0 := encIt_flat (y :: acc) 4 true
        simp only [List.cons_append, List.map_cons, List.map_nil, List.map_append, eit] at hfl hfl0
        have hlacc : acc.length ≤ 200 := by simp at hacc; omega
        have hnle : ¬ acc.length + 1 + 1 ≤ acc.length + 1 := by omega
        have hby : (acc.length + 1 + 1) * 48 ≤ 140737488355328 := by omega
        have htk : List.take acc.length (List.map encIt acc) = List.map encIt acc := List.take_of_length_le (by simp)
        simp (decide := true) (implicitDefEqProofs := false) only [Am.findLoop, Am.loopOf, Am.bodyOf, Am.firstReg, Nat.beq, cond_true, cond_false, Am.splice, Am.walkW, Am.stdW, id, reduceCtorEq, Nat.reduceAdd, Nat.reduceSub, Nat.reduceMul, List.forall_mem_cons, List.forall_mem_nil, false_implies, implies_true, Try.f68, factsOf68, canonItm, accV, accH, hix, hlt', hw, keep68_13, appendS, List.isEmpty_cons, hnle, hby, htk, hfl, hfl0, in_call', hb1, hb2, hb3, List.replicate_succ, List.replicate_zero, buildSliceM, fillRow, fillAgg, build_struct, appendF, exp40_ref, exp39_ref, exp39_str, exp39_bool, exp39_int, exp38_str, rowC_row, rch40_ref, rch39_ref, rch39_str, rch39_bool, rch38_str, rchO_row, freeze_cons, freeze1_O, frzO_row, appendH, src_lst, headOk_one, Bool.not_not, List.length_map, Nat.le_refl, a1, a2, a3, a4, a5, a6, b1, b2, b3, b4, b5, b6, c1, c2, c3, c4, c5, c6, d1, d2, d3, d4, d5, d6, e1, e2, e3, e4, e5, e6, f1, f2, f3, f4, f5, f6, a7, b7, c7, d7, e7, f7, exp_agg, plain_str, plain_int, Am.compactK, Am.idsT, Am.closeStep, Am.keepW, Am.kstdW]
        repeat' ((first | (simp (implicitDefEqProofs := false) only [Am.runG_not, Am.condK_not, Am.pickV_not]; split) | (simp (implicitDefEqProofs := false) only [Am.runG_bool, Am.condK_bool, Am.pickV_bool]; split) | split) <;> (try simp (implicitDefEqProofs := false) only [Am.runGT_eq, Am.runGF_eq, Am.exH_eq]) <;> try simp (decide := true) (implicitDefEqProofs := false) only [Am.findLoop, Am.loopOf, Am.bodyOf, Am.firstReg, Nat.beq, cond_true, cond_false, Am.splice, Am.walkW, Am.stdW, id, reduceCtorEq, Nat.reduceAdd, Nat.reduceSub, Nat.reduceMul, List.forall_mem_cons, List.forall_mem_nil, false_implies, implies_true, Try.f68, factsOf68, canonItm, accV, accH, hix, hlt', hw, keep68_13, appendS, List.isEmpty_cons, hnle, hby, htk, hfl, hfl0, in_call', hb1, hb2, hb3, List.replicate_succ, List.replicate_zero, buildSliceM, fillRow, fillAgg, build_struct, appendF, exp40_ref, exp39_ref, exp39_str, exp39_bool, exp39_int, exp38_str, rowC_row, rch40_ref, rch39_ref, rch39_str, rch39_bool, rch38_str, rchO_row, freeze_cons, freeze1_O, frzO_row, appendH, src_lst, headOk_one, Bool.not_not, List.length_map, Nat.le_refl, a1, a2, a3, a4, a5, a6, b1, b2, b3, b4, b5, b6, c1, c2, c3, c4, c5, c6, d1, d2, d3, d4, d5, d6, e1, e2, e3, e4, e5, e6, f1, f2, f3, f4, f5, f6, a7, b7, c7, d7, e7, f7, exp_agg, plain_str, plain_int, Am.compactK, Am.idsT, Am.closeStep, Am.keepW, Am.kstdW, *])
        clear a1 a2 a3 a4 a5 a6 a7 b1 b2 b3 b4 b5 b6 b7 c1 c2 c3 c4 c5 c6 c7 d1 d2 d3 d4 d5 d6 d7 e1 e2 e3 e4 e5 e6 e7 f1 f2 f3 f4 f5 f6 f7
        all_goals exact ⟨(i + 1, (y :: acc) ++ [gnIt x]), by simp only [canonItm, accV, accH, List.cons_append, List.nil_append, List.map_cons, List.map_append, List.map_nil, eit, List.length_append, List.length_cons, List.length_nil], ⟨hlt, by simp at hacc ⊢; omega⟩, by simp only; omega, fun r hr => (show postItm q0 q1 q2 q3 q4 q5 56 57 58 59 4 q3 n.gn.length ((y :: acc) ++ (n.gn.drop i).map gnIt) r from by rw [hres]; exact hr)⟩
  · have hlt' : decide ((i : Int) < n.gn.length) = false := decide_eq_false (by omega)
    have e : i = n.gn.length := by omega
    simp (decide := true) (implicitDefEqProofs := false) only [Am.findLoop, Am.loopOf, Am.bodyOf, Am.firstReg, Nat.beq, cond_true, cond_false, Am.splice, Am.walkW, Am.stdW, id, reduceCtorEq, Nat.reduceAdd, Nat.reduceSub, Nat.reduceMul, List.forall_mem_cons, List.forall_mem_nil, false_implies, implies_true, Try.f68, factsOf68, canonItm, hlt']
    rw [e, List.drop_length, List.map_nil, List.append_nil]
    rfl
set_option maxHeartbeats 8000000 in
theorem items_ld (n : Net) (q0 q1 q2 q3 q4 q5 : PV) (hq : NetQ n q0 q1 q2 q3 q4 q5) (hl : n.ld.length ≤ 12) : ∀ (a : Nat × List Item) (t : St), (a.1 ≤ n.ld.length ∧ a.2.length ≤ 100 + a.1) →
    maskK (hints.keep 68 (firstReg (loopOf Try.f68 18))) ⟨68, 0, 145⟩ t = some (canonItm q0 q1 q2 q3 q4 q5 91 92 93 q4 n.ld.length a.1 (a.2)) →
    Holds (L0.ex ⟨68, 0, 145⟩ (.loop (loopOf Try.f68 18)) t) (postItm q0 q1 q2 q3 q4 q5 91 92 93 94 6 q4 n.ld.length (a.2 ++ (n.ld.drop a.1).map ldIt)) := by
  refine loop_rule (σ := Nat × List Item) (c := ⟨68, 0, 145⟩) (b := loopOf Try.f68 18) (fun a => canonItm q0 q1 q2 q3 q4 q5 91 92 93 q4 n.ld.length a.1 (a.2)) (fun a => a.1 ≤ n.ld.length ∧ a.2.length ≤ 100 + a.1) (fun a => n.ld.length - a.1) _ ?_
  rintro ⟨i, acc⟩ ⟨hi, hacc⟩
  simp only at hi hacc
  obtain ⟨a1, a2, a3, a4, a5, a6, a7⟩ := hq.h0.ids
  obtain ⟨b1, b2, b3, b4, b5, b6, b7⟩ := hq.h1.ids
  obtain ⟨c1, c2, c3, c4, c5, c6, c7⟩ := hq.h2.ids
  obtain ⟨d1, d2, d3, d4, d5, d6, d7⟩ := hq.h3.ids
  obtain ⟨e1, e2, e3, e4, e5, e6, e7⟩ := hq.h4.ids
  obtain ⟨f1, f2, f3, f4, f5, f6, f7⟩ := hq.h5.ids
  by_cases hlt : i < n.ld.length
  · have hix := fun H => index_sl (P := Try.prog) (H := H) hq.h4 slZ45 (k := .i64) (j := i) (by omega) (encLd_get hlt) rfl
    have hlt' : decide ((i : Int) < n.ld.length) = true := decide_eq_true (by omega)
    have hw : IntKind.i64.wrap ((i : Int) + 1) = ((i + 1 : Nat) : Int) := wrap64 (by omega) (by omega)
    have hdrop : (n.ld.drop i).map ldIt = ldIt n.ld[i] :: (n.ld.drop (i + 1)).map ldIt := by rw [List.drop_eq_getElem_cons hlt]; rfl
    generalize hsx : n.ld[i] = x at hix hdrop
    simp only [encLd] at hix
    have hres : acc ++ (n.ld.drop i).map ldIt = (acc ++ [ldIt x]) ++ (n.ld.drop (i + 1)).map ldIt := by rw [hdrop]; simp
    have eit : encIt (ldIt x) = [PV.str x.name, PV.lst [[.str x.node]], PV.bool false, PV.bool (outB x.demand 0 100000)] := rfl
    cases hb1 : outB x.demand 0 100000 <;> simp only [hb1] at eit
    all_goals
      cases acc with
      | nil =>
        have hfl := encIt_flat [ldIt x] 4 true
        simp only [List.map_cons, List.map_nil, eit] at hfl
        simp (decide := true) (implicitDefEqProofs := false) only [Am.findLoop, Am.loopOf, Am.bodyOf, Am.firstReg, Nat.beq, cond_true, cond_false, Am.splice, Am.walkW, Am.stdW, id, reduceCtorEq, Nat.reduceAdd, Nat.reduceSub, Nat.reduceMul, List.forall_mem_cons, List.forall_mem_nil, false_implies, implies_true, Try.f68, factsOf68, canonItm, accV, accH, hix, hlt', hw, keep68_18, appS_nil, hfl, in_call', hb1, List.replicate_succ, List.replicate_zero, buildSliceM, fillRow, fillAgg, build_struct, appendF, exp40_ref, exp39_ref, exp39_str, exp39_bool, exp39_int, exp38_str, rowC_row, rch40_ref, rch39_ref, rch39_str, rch39_bool, rch38_str, rchO_row, freeze_cons, freeze1_O, frzO_row, appendH, src_lst, headOk_one, Bool.not_not, List.length_map, Nat.le_refl, a1, a2, a3, a4, a5, a6, b1, b2, b3, b4, b5, b6, c1, c2, c3, c4, c5, c6, d1, d2, d3, d4, d5, d6, e1, e2, e3, e4, e5, e6, f1, f2, f3, f4, f5, f6, a7, b7, c7, d7, e7, f7, exp_agg, plain_str, plain_int, Am.compactK, Am.idsT, Am.closeStep, Am.keepW, Am.kstdW]
        repeat' ((first | (simp (implicitDefEqProofs := false) only [Am.runG_not, Am.condK_not, Am.pickV_not]; split) | (simp (implicitDefEqProofs := false) only [Am.runG_bool, Am.condK_bool, Am.pickV_bool]; split) | split) <;> (try simp (implicitDefEqProofs := false) only [Am.runGT_eq, Am.runGF_eq, Am.exH_eq]) <;> try simp (decide := true) (implicitDefEqProofs := false) only [Am.findLoop, Am.loopOf, Am.bodyOf, Am.firstReg, Nat.beq, cond_true, cond_false, Am.splice, Am.walkW, Am.stdW, id, reduceCtorEq, Nat.reduceAdd, Nat.reduceSub, Nat.reduceMul, List.forall_mem_cons, List.forall_mem_nil, false_implies, implies_true, Try.f68, factsOf68, canonItm, accV, accH, hix, hlt', hw, keep68_18, appS_nil, hfl, in_call', hb1, List.replicate_succ, List.replicate_zero, buildSliceM, fillRow, fillAgg, build_struct, appendF, exp40_ref, exp39_ref, exp39_str, exp39_bool, exp39_int, exp38_str, rowC_row, rch40_ref, rch39_ref, rch39_str, rch39_bool, rch38_str, rchO_row, freeze_cons, freeze1_O, frzO_row, appendH, src_lst, headOk_one, Bool.not_not, List.length_map, Nat.le_refl, a1, a2, a3, a4, a5, a6, b1, b2, b3, b4, b5, b6, c1, c2, c3, c4, c5, c6, d1, d2, d3, d4, d5, d6, e1, e2, e3, e4, e5, e6, f1, f2, f3, f4, f5, f6, a7, b7, c7, d7, e7, f7, exp_agg, plain_str, plain_int, Am.compactK, Am.idsT, Am.closeStep, Am.keepW, Am.kstdW, *])
        all_goals exact ⟨(i + 1, [] ++ [ldIt x]), by simp only [canonItm, accV, accH, List.cons_append, List.nil_append, List.map_cons, List.map_append, List.map_nil, eit, List.length_append, List.length_cons, List.length_nil], ⟨hlt, by simp at hacc ⊢; omega⟩, by simp only; omega, fun r hr => (show postItm q0 q1 q2 q3 q4 q5 91 92 93 94 6 q4 n.ld.length ([] ++ (n.ld.drop i).map ldIt) r from by rw [hres]; exact hr)⟩
      | cons y acc =>
        have hfl := encIt_flat ((y :: acc) ++ [ldIt x]) 4 true
        have hfl0 := encIt_flat (y :: acc) 4 true
        simp only [List.cons_append, List.map_cons, List.map_nil, List.map_append, eit] at hfl hfl0
        have hlacc : acc.length ≤ 200 := by simp at hacc; omega
        have hnle : ¬ acc.length + 1 + 1 ≤ acc.length + 1 := by omega
        have hby : (acc.length + 1 + 1) * 48 ≤ 140737488355328 := by omega
        have htk : List.take acc.length (List.map encIt acc) = List.map encIt acc := List.take_of_length_le (by simp)
        simp (decide := true) (implicitDefEqProofs := false) only [Am.findLoop, Am.loopOf, Am.bodyOf, Am.firstReg, Nat.beq, cond_true, cond_false, Am.splice, Am.walkW, Am.stdW, id, reduceCtorEq, Nat.reduceAdd, Nat.reduceSub, Nat.reduceMul, List.forall_mem_cons, List.forall_mem_nil, false_implies, implies_true, Try.f68, factsOf68, canonItm, accV, accH, hix, hlt', hw, keep68_18, appendS, List.isEmpty_cons, hnle, hby, htk, hfl, hfl0, in_call', hb1, List.replicate_succ, List.replicate_zero, buildSliceM, fillRow, fillAgg, build_struct, appendF, exp40_ref, exp39_ref, exp39_str, exp39_bool, exp39_int, exp38_str, rowC_row, rch40_ref, rch39_ref, rch39_str, rch39_bool, rch38_str, rchO_row, freeze_cons, freeze1_O, frzO_row, appendH, src_lst, headOk_one, Bool.not_not, List.length_map, Nat.le_refl, a1, a2, a3, a4, a5, a6, b1, b2, b3, b4, b5, b6, c1, c2, c3, c4, c5, c6, d1, d2, d3, d4, d5, d6, e1, e2, e3, e4, e5, e6, f1, f2, f3, f4, f5, f6, a7, b7, c7, d7, e7, f7, exp_agg, plain_str, plain_int, Am.compactK, Am.idsT, Am.closeStep, Am.keepW, Am.kstdW]
        repeat' ((first | (simp (implicitDefEqProofs := false) only [Am.runG_not, Am.condK_not, Am.pickV_not]; split) | (simp (implicitDefEqProofs := false) only [Am.runG_bool, Am.condK_bool, Am.pickV_bool]; split) | split) <;> (try simp (implicitDefEqProofs := false) only [Am.runGT_eq, Am.runGF_eq, Am.exH_eq]) <;> try simp (decide := true) (implicitDefEqProofs := false) only [Am.findLoop, Am.loopOf, Am.bodyOf, Am.firstReg, Nat.beq, cond_true, cond_false, Am.splice, Am.walkW, Am.stdW, id, reduceCtorEq, Nat.reduceAdd, Nat.reduceSub, Nat.reduceMul, List.forall_mem_cons, List.forall_mem_nil, false_implies, implies_true, Try.f68, factsOf68, canonItm, accV, accH, hix, hlt', hw, keep68_18, appendS, List.isEmpty_cons, hnle, hby, htk, hfl, hfl0, in_call', hb1, List.replicate_succ, List.replicate_zero, buildSliceM, fillRow, fillAgg, build_struct, appendF, exp40_ref, exp39_ref, exp39_str, exp39_bool, exp39_int, exp38_str, rowC_row, rch40_ref, rch39_ref, rch39_str, rch39_bool, rch38_str, rchO_row, freeze_cons, freeze1_O, frzO_row, appendH, src_lst, headOk_one, Bool.not_not, List.length_map, Nat.le_refl, a1, a2, a3, a4, a5, a6, b1, b2, b3, b4, b5, b6, c1, c2, c3, c4, c5, c6, d1, d2, d3, d4, d5, d6, e1, e2, e3, e4, e5, e6, f1, f2, f3, f4, f5, f6, a7, b7, c7, d7, e7, f7, exp_agg, plain_str, plain_int, Am.compactK, Am.idsT, Am.closeStep, Am.keepW, Am.kstdW, *])
        clear a1 a2 a3 a4 a5 a6 a7 b1 b2 b3 b4 b5 b6 b7 c1 c2 c3 c4 c5 c6 c7 d1 d2 d3 d4 d5 d6 d7 e1 e2 e3 e4 e5 e6 e7 f1 f2 f3 f4 f5 f6 f7
        all_goals exact ⟨(i + 1, (y :: acc) ++ [ldIt x]), by simp only [canonItm, accV, accH, List.cons_append, List.nil_append, List.map_cons, List.map_append, List.map_nil, eit, List.length_append, List.length_cons, List.length_nil], ⟨hlt, by simp at hacc ⊢; omega⟩, by simp only; omega, fun r hr => (show postItm q0 q1 q2 q3 q4 q5 91 92 93 94 6 q4 n.ld.length ((y :: acc) ++ (n.ld.drop i).map ldIt) r from by rw [hres]; exact hr)⟩
  · have hlt' : decide ((i : Int) < n.ld.length) = false := decide_eq_false (by omega)
    have e : i = n.ld.length := by omega
    simp (decide := true) (implicitDefEqProofs := false) only [Am.findLoop, Am.loopOf, Am.bodyOf, Am.firstReg, Nat.beq, cond_true, cond_false, Am.splice, Am.walkW, Am.stdW, id, reduceCtorEq, Nat.reduceAdd, Nat.reduceSub, Nat.reduceMul, List.forall_mem_cons, List.forall_mem_nil, false_implies, implies_true, Try.f68, factsOf68, canonItm, hlt']
    rw [e, List.drop_length, List.map_nil, List.append_nil]
    rfl
set_option maxHeartbeats 8000000 in
theorem items_so (n : Net) (q0 q1 q2 q3 q4 q5 : PV) (hq : NetQ n q0 q1 q2 q3 q4 q5) (hl : n.so.length ≤ 4) : ∀ (a : Nat × List Item) (t : St), (a.1 ≤ n.so.length ∧ a.2.length ≤ 100 + a.1) →
    maskK (hints.keep 68 (firstReg (loopOf Try.f68 23))) ⟨68, 0, 145⟩ t = some (canonItz  112 113 114 q5 n.so.length a.1 (a.2)) →
    Holds (L0.ex ⟨68, 0, 145⟩ (.loop (loopOf Try.f68 23)) t) (postItz 112 113 114 115 8 q5 n.so.length (a.2 ++ (n.so.drop a.1).map soIt)) := by
  refine loop_rule (σ := Nat × List Item) (c := ⟨68, 0, 145⟩) (b := loopOf Try.f68 23) (fun a => canonItz  112 113 114 q5 n.so.length a.1 (a.2)) (fun a => a.1 ≤ n.so.length ∧ a.2.length ≤ 100 + a.1) (fun a => n.so.length - a.1) _ ?_
  rintro ⟨i, acc⟩ ⟨hi, hacc⟩
  simp only at hi hacc
  obtain ⟨a1, a2, a3, a4, a5, a6, a7⟩ := hq.h0.ids
  obtain ⟨b1, b2, b3, b4, b5, b6, b7⟩ := hq.h1.ids
  obtain ⟨c1, c2, c3, c4, c5, c6, c7⟩ := hq.h2.ids
  obtain ⟨d1, d2, d3, d4, d5, d6, d7⟩ := hq.h3.ids
  obtain ⟨e1, e2, e3, e4, e5, e6, e7⟩ := hq.h4.ids
  obtain ⟨f1, f2, f3, f4, f5, f6, f7⟩ := hq.h5.ids
  by_cases hlt : i < n.so.length
  · have hix := fun H => index_sl (P := Try.prog) (H := H) hq.h5 slZ46 (k := .i64) (j := i) (by omega) (encSo_get hlt) rfl
    have hlt' : decide ((i : Int) < n.so.length) = true := decide_eq_true (by omega)
    have hw : IntKind.i64.wrap ((i : Int) + 1) = ((i + 1 : Nat) : Int) := wrap64 (by omega) (by omega)
    have hdrop : (n.so.drop i).map soIt = soIt n.so[i] :: (n.so.drop (i + 1)).map soIt := by rw [List.drop_eq_getElem_cons hlt]; rfl
    generalize hsx : n.so[i] = x at hix hdrop
    simp only [encSo] at hix
    have hres : acc ++ (n.so.drop i).map soIt = (acc ++ [soIt x]) ++ (n.so.drop (i + 1)).map soIt := by rw [hdrop]; simp
    have eit : encIt (soIt x) = [PV.str x.name, PV.lst [[.str x.node]], PV.bool false, PV.bool (outB x.charge 0 100000 || outB x.discharge 0 100000 || outB x.capacity 0 100000)] := rfl
    cases hb1 : outB x.charge 0 100000 <;> cases hb2 : outB x.discharge 0 100000 <;> cases hb3 : outB x.capacity 0 100000 <;> simp only [hb1, hb2, hb3, Bool.or_false, Bool.or_true, Bool.false_or, Bool.true_or] at eit
    all_goals
      cases acc with
      | nil =>
        have hfl := encIt_flat [soIt x] 4 true
        simp only [List.map_cons, List.map_nil, eit] at hfl
        simp (decide := true) (implicitDefEqProofs := false) only [Am.findLoop, Am.loopOf, Am.bodyOf, Am.firstReg, Nat.beq, cond_true, cond_false, Am.splice, Am.walkW, Am.stdW, id, reduceCtorEq, Nat.reduceAdd, Nat.reduceSub, Nat.reduceMul, List.forall_mem_cons, List.forall_mem_nil, false_implies, implies_true, Try.f68, factsOf68, canonItz, accV, accH, hix, hlt', hw, keep68_23, appS_nil, hfl, in_call', hb1, hb2, hb3, List.replicate_succ, List.replicate_zero, buildSliceM, fillRow, fillAgg, build_struct, appendF, exp40_ref, exp39_ref, exp39_str, exp39_bool, exp39_int, exp38_str, rowC_row, rch40_ref, rch39_ref, rch39_str, rch39_bool, rch38_str, rchO_row, freeze_cons, freeze1_O, frzO_row, appendH, src_lst, headOk_one, Bool.not_not, List.length_map, Nat.le_refl, a1, a2, a3, a4, a5, a6, b1, b2, b3, b4, b5, b6, c1, c2, c3, c4, c5, c6, d1, d2, d3, d4, d5, d6, e1, e2, e3, e4, e5, e6, f1, f2, f3, f4, f5, f6, a7, b7, c7, d7, e7, f7, exp_agg, plain_str, plain_int, Am.compactK, Am.idsT, Am.closeStep, Am.keepW, Am.kstdW]
        repeat' ((first | (simp (implicitDefEqProofs := false) only [Am.runG_not, Am.condK_not, Am.pickV_not]; split) | (simp (implicitDefEqProofs := false) only [Am.runG_bool, Am.condK_bool, Am.pickV_bool]; split) | split) <;> (try simp (implicitDefEqProofs := false) only [Am.runGT_eq, Am.runGF_eq, Am.exH_eq]) <;> try simp (decide := true) (implicitDefEqProofs := false) only [Am.findLoop, Am.loopOf, Am.bodyOf, Am.firstReg, Nat.beq, cond_true, cond_false, Am.splice, Am.walkW, Am.stdW, id, reduceCtorEq, Nat.reduceAdd, Nat.reduceSub, Nat.reduceMul, List.forall_mem_cons, List.forall_mem_nil, false_implies, implies_true, Try.f68, factsOf68, canonItz, accV, accH, hix, hlt', hw, keep68_23, appS_nil, hfl, in_call', hb1, hb2, hb3, List.replicate_succ, List.replicate_zero, buildSliceM, fillRow, fillAgg, build_struct, appendF, exp40_ref, exp39_ref, exp39_str, exp39_bool, exp39_int, exp38_str, rowC_row, rch40_ref, rch39_ref, rch39_str, rch39_bool, rch38_str, rchO_row, freeze_cons, freeze1_O, frzO_row, appendH, src_lst, headOk_one, Bool.not_not, List.length_map, Nat.le_refl, a1, a2, a3, a4, a5, a6, b1, b2, b3, b4, b5, b6, c1, c2, c3, c4, c5, c6, d1, d2, d3, d4, d5, d6, e1, e2, e3, e4, e5, e6, f1, f2, f3, f4, f5, f6, a7, b7, c7, d7, e7, f7, exp_agg, plain_str, plain_int, Am.compactK, Am.idsT, Am.closeStep, Am.keepW, Am.kstdW, *])
        all_goals exact ⟨(i + 1, [] ++ [soIt x]), by simp only [canonItz, accV, accH, List.cons_append, List.nil_append, List.map_cons, List.map_append, List.map_nil, eit, List.length_append, List.length_cons, List.length_nil], ⟨hlt, by simp at hacc ⊢; omega⟩, by simp only; omega, fun r hr => (show postItz 112 113 114 115 8 q5 n.so.length ([] ++ (n.so.drop i).map soIt) r from by rw [hres]; exact hr)⟩
      | cons y acc =>
        have hfl := encIt_flat ((y :: acc) ++ [soIt x]) 4 true
        have hfl0 := encIt_flat (y :: acc) 4 true
        simp only [List.cons_append, List.map_cons, List.map_nil, List.map_append, eit] at hfl hfl0
        have hlacc : acc.length ≤ 200 := by simp at hacc; omega
        have hnle : ¬ acc.length + 1 + 1 ≤ acc.length + 1 := by omega
        have hby : (acc.length + 1 + 1) * 48 ≤ 140737488355328 := by omega
        have htk : List.take acc.length (List.map encIt acc) = List.map encIt acc := List.take_of_length_le (by simp)
        simp (decide := true) (implicitDefEqProofs := false) only [Am.findLoop, Am.loopOf, Am.bodyOf, Am.firstReg, Nat.beq, cond_true, cond_false, Am.splice, Am.walkW, Am.stdW, id, reduceCtorEq, Nat.reduceAdd, Nat.reduceSub, Nat.reduceMul, List.forall_mem_cons, List.forall_mem_nil, false_implies, implies_true, Try.f68, factsOf68, canonItz, accV, accH, hix, hlt', hw, keep68_23, appendS, List.isEmpty_cons, hnle, hby, htk, hfl, hfl0, in_call', hb1, hb2, hb3, List.replicate_succ, List.replicate_zero, buildSliceM, fillRow, fillAgg, build_struct, appendF, exp40_ref, exp39_ref, exp39_str, exp39_bool, exp39_int, exp38_str, rowC_row, rch40_ref, rch39_ref, rch39_str, rch39_bool, rch38_str, rchO_row, freeze_cons, freeze1_O, frzO_row, appendH, src_lst, headOk_one, Bool.not_not, List.length_map, Nat.le_refl, a1, a2, a3, a4, a5, a6, b1, b2, b3, b4, b5, b6, c1, c2, c3, c4, c5, c6, d1, d2, d3, d4, d5, d6, e1, e2, e3, e4, e5, e6, f1, f2, f3, f4, f5, f6, a7, b7, c7, d7, e7, f7, exp_agg, plain_str, plain_int, Am.compactK, Am.idsT, Am.closeStep, Am.keepW, Am.kstdW]
        repeat' ((first | (simp (implicitDefEqProofs := false) only [Am.runG_not, Am.condK_not, Am.pickV_not]; split) | (simp (implicitDefEqProofs := false) only [Am.runG_bool, Am.condK_bool, Am.pickV_bool]; split) | split) <;> (try simp (implicitDefEqProofs := false) only [Am.runGT_eq, Am.runGF_eq, Am.exH_eq]) <;> try simp (decide := true) (implicitDefEqProofs := false) only [Am.findLoop, Am.loopOf, Am.bodyOf, Am.firstReg, Nat.beq, cond_true, cond_false, Am.splice, Am.walkW, Am.stdW, id, reduceCtorEq, Nat.reduceAdd, Nat.reduceSub, Nat.reduceMul, List.forall_mem_cons, List.forall_mem_nil, false_implies, implies_true, Try.f68, factsOf68, canonItz, accV, accH, hix, hlt', hw, keep68_23, appendS, List.isEmpty_cons, hnle, hby, htk, hfl, hfl0, in_call', hb1, hb2, hb3, List.replicate_succ, List.replicate_zero, buildSliceM, fillRow, fillAgg, build_struct, appendF, exp40_ref, exp39_ref, exp39_str, exp39_bool, exp39_int, exp38_str, rowC_row, rch40_ref, rch39_ref, rch39_str, rch39_bool, rch38_str, rchO_row, freeze_cons, freeze1_O, frzO_row, appendH, src_lst, headOk_one, Bool.not_not, List.length_map, Nat.le_refl, a1, a2, a3, a4, a5, a6, b1, b2, b3, b4, b5, b6, c1, c2, c3, c4, c5, c6, d1, d2, d3, d4, d5, d6, e1, e2, e3, e4, e5, e6, f1, f2, f3, f4, f5, f6, a7, b7, c7, d7, e7, f7, exp_agg, plain_str, plain_int, Am.compactK, Am.idsT, Am.closeStep, Am.keepW, Am.kstdW, *])
        clear a1 a2 a3 a4 a5 a6 a7 b1 b2 b3 b4 b5 b6 b7 c1 c2 c3 c4 c5 c6 c7 d1 d2 d3 d4 d5 d6 d7 e1 e2 e3 e4 e5 e6 e7 f1 f2 f3 f4 f5 f6 f7
        all_goals exact ⟨(i + 1, (y :: acc) ++ [soIt x]), by simp only [canonItz, accV, accH, List.cons_append, List.nil_append, List.map_cons, List.map_append, List.map_nil, eit, List.length_append, List.length_cons, List.length_nil], ⟨hlt, by simp at hacc ⊢; omega⟩, by simp only; omega, fun r hr => (show postItz 112 113 114 115 8 q5 n.so.length ((y :: acc) ++ (n.so.drop i).map soIt) r from by rw [hres]; exact hr)⟩
  · have hlt' : decide ((i : Int) < n.so.length) = false := decide_eq_false (by omega)
    have e : i = n.so.length := by omega
    simp (decide := true) (implicitDefEqProofs := false) only [Am.findLoop, Am.loopOf, Am.bodyOf, Am.firstReg, Nat.beq, cond_true, cond_false, Am.splice, Am.walkW, Am.stdW, id, reduceCtorEq, Nat.reduceAdd, Nat.reduceSub, Nat.reduceMul, List.forall_mem_cons, List.forall_mem_nil, false_implies, implies_true, Try.f68, factsOf68, canonItz, hlt']
    rw [e, List.drop_length, List.map_nil, List.append_nil]
    rfl
end Go.Proofs.Ytcclbkkgpcpikaa

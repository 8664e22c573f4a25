import Derived.Test.YtcclbkkgpcpikaaH1
set_option linter.unusedSimpArgs false
set_option linter.unusedVariables false
namespace Go.Proofs.Ytcclbkkgpcpikaa
open Go.Am
set_option maxRecDepth 100000
set_option maxHeartbeats 4000000 in
theorem parts_run (n : Nat) (hn : n ≤ 24) (wo : Int) (q : PV) (l : List (Nat × Nat)) (hq : Sl q (l.map enc2N)) (hok : okL n l) (hl : l.length ≤ 64) : Holds (L1.rn 55 [.int .i64 n, q, .int .i64 wo] []) (fun r => r = (.ref 0 0 n n, [.row ((partsF wo l n).map encI) 1 true])) := by
  obtain ⟨a1, a2, a3, a4, a5, a6, a7⟩ := hq.ids
  have f1 := flatI (List.replicate n (-1)) 1 true
  have hri := fun b => repeat_imp hn b
  refine rn_rule (fn := Try.f55) (code := bodyOf Try.f55) ok55 Try.func55 (by kernel_rfl) (Nat.le_of_ble_eq_true (by kernel_rfl)) ?_
  simp (decide := true) (implicitDefEqProofs := false) only [Am.findLoop, Am.loopOf, Am.bodyOf, Am.firstReg, Nat.beq, cond_true, cond_false, Am.splice, Am.walkW, Am.stdW, id, reduceCtorEq, Nat.reduceAdd, Nat.reduceSub, Nat.reduceMul, List.forall_mem_cons, List.forall_mem_nil, false_implies, implies_true, Try.f55, factsOf55, List.replicate_succ, List.replicate_zero, buildSliceM, fillRow, appendF, appendH, src_lst, src_ref, elemsO_row, headOk_one, Nat.le_refl, a7, hri, exp40_ref, rowC_row, plainss, plain_int, exp39_int, freeze_nil]
  simp only [holds_bind]
  refine (parts_outer n hn wo q l hq hok hl (0, 0, List.replicate n (-1)) _ ⟨Nat.zero_le _, Nat.le_refl _, by simp⟩ ?_).mono ?_
  · show maskK (hints.keep 55 4) _ _ = _
    simp (decide := true) (implicitDefEqProofs := false) only [Am.findLoop, Am.loopOf, Am.bodyOf, Am.firstReg, Nat.beq, cond_true, cond_false, Am.splice, Am.walkW, Am.stdW, id, reduceCtorEq, Nat.reduceAdd, Nat.reduceSub, Nat.reduceMul, List.forall_mem_cons, List.forall_mem_nil, false_implies, implies_true, Try.f55, factsOf55, keep55_4, canonO, f1, a1, a2, a3, a4, a5, a6, a7, Am.compactK, Am.idsT, Am.closeStep, Am.keepW, Am.kstdW]
    rfl
  · rintro ⟨e, s'⟩ ⟨h5, h6⟩
    cases h5
    rw [keepB55_0] at h6
    simp (decide := true) (implicitDefEqProofs := false) only [Am.findLoop, Am.loopOf, Am.bodyOf, Am.firstReg, Nat.beq, cond_true, cond_false, Am.splice, Am.walkW, Am.stdW, id, reduceCtorEq, Nat.reduceAdd, Nat.reduceSub, Nat.reduceMul, List.forall_mem_cons, List.forall_mem_nil, false_implies, implies_true, Try.f55, factsOf55, h6]
    rfl
theorem parts_call (n : Nat) (hn : n ≤ 24) (wo : Int) (q : PV) (l : List (Nat × Nat)) (hq : Sl q (l.map enc2N)) (hok : okL n l) (hl : l.length ≤ 64) : pureCall hints L1 55 [.int .i64 n, q, .int .i64 wo] = some (.lst ((partsF wo l n).map encI)) :=
  pure_of prim55 ((parts_run n hn wo q l hq hok hl).mono fun r hr => by
    rw [hr]
    exact exp_row rfl (by rw [List.length_map, partsF, partsGo_len, List.length_replicate]) (plainI _))
/-! graphs that came in -/
def castE (x : Nat × Nat) : Int × Int := (x.1, x.2)
theorem castE_enc (l : List (Nat × Nat)) : (l.map castE).map enc2 = l.map enc2N := by rw [List.map_map]; rfl
theorem gcheck_call (q : PV) (l : List (Int × Int)) (hq : Sl q (l.map enc2)) (n : Int) : pureCall hints L1 13 [.int .i64 n, q] = some (.int .i64 (graphCheck n l)) :=
  pure_of prim13 ((gcheck_run q l hq n).mono fun r hr => by rw [hr]; rfl)
theorem comp_ok (q : PV) (l : List (Nat × Nat)) (hq : Sl q (l.map enc2N)) (n : Nat) (hn : n ≤ 24) (hok : okL n l) (hl : l.length ≤ 64) (hg : graphCheck n (l.map castE) = 0) : pureCall hints L1 10 [.int .i64 n, q] = some (.tup [.lst ((partsF (-1) l n).map encI), .int .i64 0]) := by
  have hc := gcheck_call q (l.map castE) (by rw [castE_enc]; exact hq) n
  rw [hg] at hc
  have hp := parts_call n hn (-1) q l hq hok hl
  have hqe := fun H => hq.plain.exp (H := H)
  have hqr := fun H => hq.rch (H := H)
  refine pure_of prim10 (Holds.mono (Q := fun r => r.1 = .tup [.lst ((partsF (-1) l n).map encI), .int .i64 0]) ?_ fun r hr => by rw [hr]; rfl)
  refine rn_rule (fn := Try.f10) (code := bodyOf Try.f10) ok10 Try.func10 (by kernel_rfl) (Nat.le_of_ble_eq_true (by kernel_rfl)) ?_
  simp (decide := true) (implicitDefEqProofs := false) only [Am.findLoop, Am.loopOf, Am.bodyOf, Am.firstReg, Nat.beq, cond_true, cond_false, Am.splice, Am.walkW, Am.stdW, id, reduceCtorEq, Nat.reduceAdd, Nat.reduceSub, Nat.reduceMul, List.forall_mem_cons, List.forall_mem_nil, false_implies, implies_true, Try.f10, factsOf10, hc, hp, hqe, hqr]
end Go.Proofs.Ytcclbkkgpcpikaa

/-
  station.Isolate: the closed switches of a node.
-/
import Derived.Test.YtcclbkkgpcpikaaK9
set_option linter.unusedSimpArgs false
set_option linter.unusedVariables false
namespace Go.Proofs.Ytcclbkkgpcpikaa
open Go.Am
set_option maxRecDepth 100000
def isoB (s : ByteArray) (x : Sw) : Bool := !x.opn && (eqS x.a s || eqS x.b s)
def isoL (s : ByteArray) (l : List Sw) : List ByteArray := (l.filter (isoB s)).map (·.name)
theorem isoL_cons (s : ByteArray) (x : Sw) (l : List Sw) : isoL s (x :: l) = if isoB s x = true then x.name :: isoL s l else isoL s l := by
  unfold isoL
  rw [List.filter_cons]
  split <;> rfl
noncomputable def canonIso (q1 : PV) (s : ByteArray) (len i : Nat) (acc : List ByteArray) : St :=
  ⟨[(1, .str s), (7, accG 0 acc), (18, q1), (19, .int .i64 len), (20, .int .i64 i)], accGH encS 1 acc⟩
def postIso (full : List ByteArray) (r : Ex × St) : Prop := r.1 = .exit 0 ∧ maskK (hints.keepB 39 0) ⟨39, 0, 46⟩ r.2 = some ⟨[(7, accG 0 full)], accGH encS 1 full⟩
set_option maxHeartbeats 16000000 in
theorem isolate_loop (n : Net) (q0 q1 q2 q3 q4 q5 : PV) (hq : NetQ n q0 q1 q2 q3 q4 q5) (s : ByteArray) (hl : n.sw.length ≤ 32) : ∀ (a : Nat × List ByteArray) (t : St), (a.1 ≤ n.sw.length ∧ a.2.length ≤ a.1) →
    maskK (hints.keep 39 (firstReg (loopOf Try.f39 6))) ⟨39, 0, 46⟩ t = some (canonIso q1 s n.sw.length a.1 a.2) →
    Holds (L1.ex ⟨39, 0, 46⟩ (.loop (loopOf Try.f39 6)) t) (postIso (a.2 ++ isoL s (n.sw.drop a.1))) := by
  refine loop_rule (σ := Nat × List ByteArray) (c := ⟨39, 0, 46⟩) (b := loopOf Try.f39 6) (fun a => canonIso q1 s n.sw.length a.1 a.2) (fun a => a.1 ≤ n.sw.length ∧ a.2.length ≤ a.1) (fun a => n.sw.length - a.1) _ ?_
  rintro ⟨i, acc⟩ ⟨hi, hacc⟩
  simp only at hi hacc
  obtain ⟨b1, b2, b3, b4, b5, b6, b7⟩ := hq.h1.ids
  by_cases hlt : i < n.sw.length
  · have hix := fun H => index_sl (P := Try.prog) (H := H) hq.h1 slZ42 (k := .i64) (j := i) (by omega) (encSw_get hlt) rfl
    have hlt' : decide ((i : Int) < n.sw.length) = true := decide_eq_true (by omega)
    have hw : IntKind.i64.wrap ((i : Int) + 1) = ((i + 1 : Nat) : Int) := wrap64 (by omega) (by omega)
    have hdr : isoL s (n.sw.drop i) = if isoB s n.sw[i] = true then n.sw[i].name :: isoL s (n.sw.drop (i + 1)) else isoL s (n.sw.drop (i + 1)) := by rw [List.drop_eq_getElem_cons hlt, isoL_cons]
    rw [hdr]
    generalize n.sw[i] = x at hix
    simp only [encSw] at hix
    unfold isoB
    generalize x.name = nm at hix
    generalize x.opn = o at hix
    have qa := eqS_eq x.a s
    have qb := eqS_eq x.b s
    generalize eqS x.a s = p at qa
    generalize eqS x.b s = r at qb
    cases acc with
    | nil =>
      have f1 : flatM (.row [[.str nm]] 1 true) = true := flatG encS_no [nm] 1 true
      cases o with
      | true =>
        simp only [Bool.not_true, Bool.not_false, Bool.true_and, Bool.false_and, Bool.true_or, Bool.false_or, Bool.false_eq_true, if_true, if_false]
        simp (decide := true) (implicitDefEqProofs := false) only [Am.findLoop, Am.loopOf, Am.bodyOf, Am.firstReg, Nat.beq, cond_true, cond_false, Am.splice, Am.walkW, Am.stdW, id, reduceCtorEq, Nat.reduceAdd, Nat.reduceSub, Nat.reduceMul, List.forall_mem_cons, List.forall_mem_nil, false_implies, implies_true, Try.f39, factsOf39, canonIso, accG, accGH, hix, hlt', hw, keep39_6, b1, b2, b3, b4, b5, b6, b7, Am.compactK, Am.idsT, Am.closeStep, Am.keepW, Am.kstdW]
        exact ⟨(i + 1, []), rfl, ⟨hlt, by simp⟩, by simp only; omega, fun r hr => hr⟩
      | false =>
        cases p with
        | true =>
          simp only [Bool.not_true, Bool.not_false, Bool.true_and, Bool.false_and, Bool.true_or, Bool.false_or, Bool.false_eq_true, if_true, if_false]
          simp (decide := true) (implicitDefEqProofs := false) only [Am.findLoop, Am.loopOf, Am.bodyOf, Am.firstReg, Nat.beq, cond_true, cond_false, Am.splice, Am.walkW, Am.stdW, id, reduceCtorEq, Nat.reduceAdd, Nat.reduceSub, Nat.reduceMul, List.forall_mem_cons, List.forall_mem_nil, false_implies, implies_true, Try.f39, factsOf39, canonIso, accG, accGH, encS, hix, hlt', hw, qa, f1, appS_nil, List.replicate_succ, List.replicate_zero, buildSliceM, fillRow, appendF, appendH, src_lst, src_ref, elemsO_row, headOk_one, Nat.le_refl, keep39_6, b1, b2, b3, b4, b5, b6, b7, Am.compactK, Am.idsT, Am.closeStep, Am.keepW, Am.kstdW]
          exact ⟨(i + 1, [nm]), rfl, ⟨hlt, by simp⟩, by simp only; omega, fun r hr => hr⟩
        | false =>
          cases r with
          | true =>
            simp only [Bool.not_true, Bool.not_false, Bool.true_and, Bool.false_and, Bool.true_or, Bool.false_or, Bool.false_eq_true, if_true, if_false]
            simp (decide := true) (implicitDefEqProofs := false) only [Am.findLoop, Am.loopOf, Am.bodyOf, Am.firstReg, Nat.beq, cond_true, cond_false, Am.splice, Am.walkW, Am.stdW, id, reduceCtorEq, Nat.reduceAdd, Nat.reduceSub, Nat.reduceMul, List.forall_mem_cons, List.forall_mem_nil, false_implies, implies_true, Try.f39, factsOf39, canonIso, accG, accGH, encS, hix, hlt', hw, qa, qb, f1, appS_nil, List.replicate_succ, List.replicate_zero, buildSliceM, fillRow, appendF, appendH, src_lst, src_ref, elemsO_row, headOk_one, Nat.le_refl, keep39_6, b1, b2, b3, b4, b5, b6, b7, Am.compactK, Am.idsT, Am.closeStep, Am.keepW, Am.kstdW]
            exact ⟨(i + 1, [nm]), rfl, ⟨hlt, by simp⟩, by simp only; omega, fun r hr => hr⟩
          | false =>
            simp only [Bool.not_true, Bool.not_false, Bool.true_and, Bool.false_and, Bool.true_or, Bool.false_or, Bool.false_eq_true, if_true, if_false]
            simp (decide := true) (implicitDefEqProofs := false) only [Am.findLoop, Am.loopOf, Am.bodyOf, Am.firstReg, Nat.beq, cond_true, cond_false, Am.splice, Am.walkW, Am.stdW, id, reduceCtorEq, Nat.reduceAdd, Nat.reduceSub, Nat.reduceMul, List.forall_mem_cons, List.forall_mem_nil, false_implies, implies_true, Try.f39, factsOf39, canonIso, accG, accGH, hix, hlt', hw, qa, qb, keep39_6, b1, b2, b3, b4, b5, b6, b7, Am.compactK, Am.idsT, Am.closeStep, Am.keepW, Am.kstdW]
            exact ⟨(i + 1, []), rfl, ⟨hlt, by simp⟩, by simp only; omega, fun r hr => hr⟩
    | cons y acc =>
      have f1 := flatG encS_no (y :: acc) 1 true
      have f2 := flatG encS_no (y :: acc ++ [nm]) 1 true
      have hap : ∀ H : List Mem, H[0]? = some (.row ((y :: acc).map encS) 1 true) → appendS H 1 16 (.ref 0 0 (acc.length + 1) (acc.length + 1)) [[.str nm]] = some (.ref H.length 0 (acc.length + 1 + 1) (acc.length + 1 + 1), H.set 0 .dead ++ [.row ((y :: acc ++ [nm]).map encS) 1 true]) := by
        intro H hH
        rw [List.map_append]
        exact appS_full hH (by simp) (by simp only [List.length_cons] at hacc; omega) _
      simp only [List.map_cons, List.cons_append] at f1 f2 hap
      have hnx : ∀ r, postIso (y :: acc ++ [nm] ++ isoL s (n.sw.drop (i + 1))) r → postIso (y :: (acc ++ nm :: isoL s (n.sw.drop (i + 1)))) r := fun r hr => by simpa using hr
      cases o with
      | true =>
        simp only [Bool.not_true, Bool.not_false, Bool.true_and, Bool.false_and, Bool.true_or, Bool.false_or, Bool.false_eq_true, if_true, if_false]
        simp (decide := true) (implicitDefEqProofs := false) only [Am.findLoop, Am.loopOf, Am.bodyOf, Am.firstReg, Nat.beq, cond_true, cond_false, Am.splice, Am.walkW, Am.stdW, id, reduceCtorEq, Nat.reduceAdd, Nat.reduceSub, Nat.reduceMul, List.forall_mem_cons, List.forall_mem_nil, false_implies, implies_true, Try.f39, factsOf39, canonIso, accG, accGH, hix, hlt', hw, f1, keep39_6, b1, b2, b3, b4, b5, b6, b7, Am.compactK, Am.idsT, Am.closeStep, Am.keepW, Am.kstdW]
        exact ⟨(i + 1, y :: acc), rfl, ⟨hlt, by simp only [List.length_cons] at hacc ⊢; omega⟩, by simp only; omega, fun r hr => hr⟩
      | false =>
        cases p with
        | true =>
          simp only [Bool.not_true, Bool.not_false, Bool.true_and, Bool.false_and, Bool.true_or, Bool.false_or, Bool.false_eq_true, if_true, if_false]
          simp (decide := true) (implicitDefEqProofs := false) only [Am.findLoop, Am.loopOf, Am.bodyOf, Am.firstReg, Nat.beq, cond_true, cond_false, Am.splice, Am.walkW, Am.stdW, id, reduceCtorEq, Nat.reduceAdd, Nat.reduceSub, Nat.reduceMul, List.forall_mem_cons, List.forall_mem_nil, false_implies, implies_true, Try.f39, factsOf39, canonIso, accG, accGH, hix, hlt', hw, qa, f1, f2, hap, List.replicate_succ, List.replicate_zero, buildSliceM, fillRow, appendF, appendH, src_lst, src_ref, elemsO_row, headOk_one, Nat.le_refl, keep39_6, b1, b2, b3, b4, b5, b6, b7, Am.compactK, Am.idsT, Am.closeStep, Am.keepW, Am.kstdW]
          exact ⟨(i + 1, y :: acc ++ [nm]), by simp only [accG, accGH, List.cons_append, List.nil_append, List.length_append, List.length_cons, List.length_nil, List.map_cons], ⟨hlt, by simp only [List.length_cons, List.length_append, List.length_nil] at hacc ⊢; omega⟩, by simp only; omega, hnx⟩
        | false =>
          cases r with
          | true =>
            simp only [Bool.not_true, Bool.not_false, Bool.true_and, Bool.false_and, Bool.true_or, Bool.false_or, Bool.false_eq_true, if_true, if_false]
            simp (decide := true) (implicitDefEqProofs := false) only [Am.findLoop, Am.loopOf, Am.bodyOf, Am.firstReg, Nat.beq, cond_true, cond_false, Am.splice, Am.walkW, Am.stdW, id, reduceCtorEq, Nat.reduceAdd, Nat.reduceSub, Nat.reduceMul, List.forall_mem_cons, List.forall_mem_nil, false_implies, implies_true, Try.f39, factsOf39, canonIso, accG, accGH, hix, hlt', hw, qa, qb, f1, f2, hap, List.replicate_succ, List.replicate_zero, buildSliceM, fillRow, appendF, appendH, src_lst, src_ref, elemsO_row, headOk_one, Nat.le_refl, keep39_6, b1, b2, b3, b4, b5, b6, b7, Am.compactK, Am.idsT, Am.closeStep, Am.keepW, Am.kstdW]
            exact ⟨(i + 1, y :: acc ++ [nm]), by simp only [accG, accGH, List.cons_append, List.nil_append, List.length_append, List.length_cons, List.length_nil, List.map_cons], ⟨hlt, by simp only [List.length_cons, List.length_append, List.length_nil] at hacc ⊢; omega⟩, by simp only; omega, hnx⟩
          | false =>
            simp only [Bool.not_true, Bool.not_false, Bool.true_and, Bool.false_and, Bool.true_or, Bool.false_or, Bool.false_eq_true, if_true, if_false]
            simp (decide := true) (implicitDefEqProofs := false) only [Am.findLoop, Am.loopOf, Am.bodyOf, Am.firstReg, Nat.beq, cond_true, cond_false, Am.splice, Am.walkW, Am.stdW, id, reduceCtorEq, Nat.reduceAdd, Nat.reduceSub, Nat.reduceMul, List.forall_mem_cons, List.forall_mem_nil, false_implies, implies_true, Try.f39, factsOf39, canonIso, accG, accGH, hix, hlt', hw, qa, qb, f1, keep39_6, b1, b2, b3, b4, b5, b6, b7, Am.compactK, Am.idsT, Am.closeStep, Am.keepW, Am.kstdW]
            exact ⟨(i + 1, y :: acc), rfl, ⟨hlt, by simp only [List.length_cons] at hacc ⊢; omega⟩, by simp only; omega, fun r hr => hr⟩
  · have hlt' : decide ((i : Int) < n.sw.length) = false := decide_eq_false (by omega)
    rw [List.drop_eq_nil_of_le (by omega), show isoL s [] = [] from rfl, List.append_nil]
    cases acc with
    | nil =>
      simp (decide := true) (implicitDefEqProofs := false) only [Am.findLoop, Am.loopOf, Am.bodyOf, Am.firstReg, Nat.beq, cond_true, cond_false, Am.splice, Am.walkW, Am.stdW, id, reduceCtorEq, Nat.reduceAdd, Nat.reduceSub, Nat.reduceMul, List.forall_mem_cons, List.forall_mem_nil, false_implies, implies_true, Try.f39, factsOf39, canonIso, accG, accGH, hlt', b7]
      refine ⟨rfl, ?_⟩
      simp (decide := true) (implicitDefEqProofs := false) only [Am.findLoop, Am.loopOf, Am.bodyOf, Am.firstReg, Nat.beq, cond_true, cond_false, Am.splice, Am.walkW, Am.stdW, id, reduceCtorEq, Nat.reduceAdd, Nat.reduceSub, Nat.reduceMul, List.forall_mem_cons, List.forall_mem_nil, false_implies, implies_true, Try.f39, factsOf39, accG, accGH, b1, b2, b3, b7, Am.compactK, Am.idsT, Am.closeStep, Am.keepW, Am.kstdW]
    | cons y acc =>
      have f1 := flatG encS_no (y :: acc) 1 true
      simp only [List.map_cons] at f1
      simp (decide := true) (implicitDefEqProofs := false) only [Am.findLoop, Am.loopOf, Am.bodyOf, Am.firstReg, Nat.beq, cond_true, cond_false, Am.splice, Am.walkW, Am.stdW, id, reduceCtorEq, Nat.reduceAdd, Nat.reduceSub, Nat.reduceMul, List.forall_mem_cons, List.forall_mem_nil, false_implies, implies_true, Try.f39, factsOf39, canonIso, accG, accGH, hlt', b7]
      refine ⟨rfl, ?_⟩
      simp (decide := true) (implicitDefEqProofs := false) only [Am.findLoop, Am.loopOf, Am.bodyOf, Am.firstReg, Nat.beq, cond_true, cond_false, Am.splice, Am.walkW, Am.stdW, id, reduceCtorEq, Nat.reduceAdd, Nat.reduceSub, Nat.reduceMul, List.forall_mem_cons, List.forall_mem_nil, false_implies, implies_true, Try.f39, factsOf39, accG, accGH, f1, b1, b2, b3, b7, Am.compactK, Am.idsT, Am.closeStep, Am.keepW, Am.kstdW]
noncomputable def sIsoV (n : Net) (s : ByteArray) : PV :=
  if stE n [s] ≠ 0 then .tup [.nils, .int .i64 (stE n [s])] else .tup [outG encS (isoL s n.sw), .int .i64 0]
theorem stE_zero {n : Net} {l : List ByteArray} (h : stE n l = 0) : netE n = 0 ∧ allM n l = true := by
  unfold stE at h
  split at h
  · rename_i h'; exact absurd h h'
  · rename_i h'
    refine ⟨by simpa using h', ?_⟩
    split at h
    · assumption
    · cases h
set_option maxHeartbeats 16000000 in
theorem siso_call (n : Net) (q0 q1 q2 q3 q4 q5 : PV) (hq : NetQ n q0 q1 q2 q3 q4 q5) (s : ByteArray) : pureCall hints L1 39 [.agg [q0, q1, q2, q3, q4, q5], .str s] = some (sIsoV n s) := by
  have hne := hq.exp
  have hnr := hq.rch
  have fN := hq.no
  unfold rowN at fN
  have hck := scheck_call n q0 q1 q2 q3 q4 q5 hq (.lst [[.str s]]) [s] (.inr rfl) (by simp)
  have hex : ∀ H : List Mem, H[1]? = some (.row [[.str s]] 1 true) → exp expFuel H (.ref 1 0 1 1) = some (.lst [[.str s]]) := fun H hH => exp_full hH rfl (by
    intro c hc x hx
    simp only [List.mem_cons, List.not_mem_nil, or_false] at hc
    subst hc
    simp only [List.mem_cons, List.not_mem_nil, or_false] at hx
    subst hx; exact plain_str _)
  have hrx : ∀ H : List Mem, H[1]? = some (.row [[.str s]] 1 true) → rch expFuel H (.ref 1 0 1 1) = [1] := fun H hH => rch_strs hH (by
    intro c hc x hx
    simp only [List.mem_cons, List.not_mem_nil, or_false] at hc
    subst hc
    simp only [List.mem_cons, List.not_mem_nil, or_false] at hx
    exact ⟨_, hx⟩) rfl
  by_cases h0 : stE n [s] = 0
  · obtain ⟨h1, h2⟩ := stE_zero h0
    have hv := vnet h1
    rw [h0] at hck
    have hll := hv.ls
    have hl1 := fun H => (lens hq H).2.1
    have hV : sIsoV n s = .tup [outG encS (isoL s n.sw), .int .i64 0] := by unfold sIsoV; rw [if_neg (by simpa using h0)]
    rw [hV]
    obtain ⟨b1, b2, b3, b4, b5, b6, b7⟩ := hq.h1.ids
    refine pure_of prim39 (Holds.mono (Q := fun r => r = (.tup [accG 0 (isoL s n.sw), .int .i64 0], accGH encS 1 (isoL s n.sw))) ?_ fun r hr => by
      rw [hr]
      have e := exp_accG encS_plainK (isoL s n.sw) 37 0 (H := accGH encS 1 (isoL s n.sw)) (z := 1) rfl rfl
      simp only [exp_tup, omap_cons', omap_nil', exp39_int, Option.bind_some]
      rw [show exp 39 (accGH encS 1 (isoL s n.sw)) (accG 0 (isoL s n.sw)) = some (outG encS (isoL s n.sw)) from e]
      rfl)
    refine rn_rule (fn := Try.f39) (code := bodyOf Try.f39) ok39 Try.func39 (by kernel_rfl) (Nat.le_of_ble_eq_true (by kernel_rfl)) ?_
    simp (decide := true) (implicitDefEqProofs := false) only [Am.findLoop, Am.loopOf, Am.bodyOf, Am.firstReg, Nat.beq, cond_true, cond_false, Am.splice, Am.walkW, Am.stdW, id, reduceCtorEq, Nat.reduceAdd, Nat.reduceSub, Nat.reduceMul, List.forall_mem_cons, List.forall_mem_nil, false_implies, implies_true, Try.f39, factsOf39, hne, hnr, hck, hex, hrx, hl1, List.replicate_succ, List.replicate_zero, buildSliceM, fillRow, appendF, appendH, src_lst, src_ref, elemsO_row, headOk_one, Nat.le_refl, freeze_cons, freeze1_O, frzO_row]
    simp only [holds_bind]
    refine (isolate_loop n q0 q1 q2 q3 q4 q5 hq s hll (0, []) _ ⟨by omega, by simp⟩ ?_).mono ?_
    · show maskK (hints.keep 39 6) _ _ = _
      simp (decide := true) (implicitDefEqProofs := false) only [Am.findLoop, Am.loopOf, Am.bodyOf, Am.firstReg, Nat.beq, cond_true, cond_false, Am.splice, Am.walkW, Am.stdW, id, reduceCtorEq, Nat.reduceAdd, Nat.reduceSub, Nat.reduceMul, List.forall_mem_cons, List.forall_mem_nil, false_implies, implies_true, Try.f39, factsOf39, keep39_6, canonIso, accG, accGH, fN, b1, b2, b3, b4, b5, b6, b7, Am.compactK, Am.idsT, Am.closeStep, Am.keepW, Am.kstdW]
      rfl
    · rintro ⟨e, s'⟩ ⟨h5, h6⟩
      cases h5
      rw [keepB39_0] at h6
      simp only [List.drop_zero, List.nil_append] at h6
      simp (decide := true) (implicitDefEqProofs := false) only [Am.findLoop, Am.loopOf, Am.bodyOf, Am.firstReg, Nat.beq, cond_true, cond_false, Am.splice, Am.walkW, Am.stdW, id, reduceCtorEq, Nat.reduceAdd, Nat.reduceSub, Nat.reduceMul, List.forall_mem_cons, List.forall_mem_nil, false_implies, implies_true, Try.f39, factsOf39, h6]
  · have hV : sIsoV n s = .tup [.nils, .int .i64 (stE n [s])] := by unfold sIsoV; rw [if_pos h0]
    rw [hV]
    have h0' : decide (stE n [s] = 0) = false := decide_eq_false h0
    refine pure_of prim39 (Holds.mono (Q := fun r => r.1 = .tup [.nils, .int .i64 (stE n [s])]) ?_ fun r hr => by rw [hr]; rfl)
    refine rn_rule (fn := Try.f39) (code := bodyOf Try.f39) ok39 Try.func39 (by kernel_rfl) (Nat.le_of_ble_eq_true (by kernel_rfl)) ?_
    simp (decide := true) (implicitDefEqProofs := false) only [Am.findLoop, Am.loopOf, Am.bodyOf, Am.firstReg, Nat.beq, cond_true, cond_false, Am.splice, Am.walkW, Am.stdW, id, reduceCtorEq, Nat.reduceAdd, Nat.reduceSub, Nat.reduceMul, List.forall_mem_cons, List.forall_mem_nil, false_implies, implies_true, Try.f39, factsOf39, hne, hnr, hck, hex, hrx, h0', List.replicate_succ, List.replicate_zero, buildSliceM, fillRow, appendF, appendH, src_lst, src_ref, elemsO_row, headOk_one, Nat.le_refl, freeze_cons, freeze1_O, frzO_row]
end Go.Proofs.Ytcclbkkgpcpikaa

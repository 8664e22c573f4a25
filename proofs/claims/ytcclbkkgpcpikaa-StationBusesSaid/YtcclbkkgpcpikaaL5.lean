/-
  For every network and every name the law 'StationBuses' returns true, and its arguments read afterwards as before. Conditions: none beyond the given statement's.
-/
import Derived.Test.YtcclbkkgpcpikaaL4
import Derived.Test.YtcclbkkgpcpikaaNet
import Derived.Test.YtcclbkkgpcpikaaK7
set_option linter.unusedSimpArgs false
set_option linter.unusedVariables false
namespace Go.Proofs.Ytcclbkkgpcpikaa
open Go.Am
set_option maxRecDepth 100000
noncomputable def canonLt (q1 v7 : PV) (s : ByteArray) (e8 : Int) (len i : Nat) (acc : List ByteArray) : St :=
  ⟨[(1, .str s), (7, v7), (8, .int .i64 e8), (16, accG 0 acc), (107, q1), (108, .int .i64 len), (109, .int .i64 i)], accGH encS 1 acc⟩
noncomputable def outLt (v7 : PV) (e8 : Int) (acc : List ByteArray) : St := ⟨[(7, v7), (8, .int .i64 e8), (16, accG 0 acc)], accGH encS 1 acc⟩
def postLt (v7 : PV) (e8 : Int) (full : List ByteArray) (r : Ex × St) : Prop := r.1 = .exit 4 ∧ maskK (hints.keepB 7 4) ⟨7, 0, 141⟩ r.2 = some (outLt v7 e8 full)
set_option maxHeartbeats 16000000 in
theorem law_iso (n : Net) (q0 q1 q2 q3 q4 q5 : PV) (hq : NetQ n q0 q1 q2 q3 q4 q5) (l7 : List ByteArray) (s : ByteArray) (e8 : Int) (hl : n.sw.length ≤ 32) : ∀ (a : Nat × List ByteArray) (t : St), (a.1 ≤ n.sw.length ∧ a.2.length ≤ a.1) →
    maskK (hints.keep 7 (firstReg (loopOf Try.f7 28))) ⟨7, 0, 141⟩ t = some (canonLt q1 (outG encS l7) s e8 n.sw.length a.1 a.2) →
    Holds (L1.ex ⟨7, 0, 141⟩ (.loop (loopOf Try.f7 28)) t) (postLt (outG encS l7) e8 (a.2 ++ isoL s (n.sw.drop a.1))) := by
  refine loop_rule (σ := Nat × List ByteArray) (c := ⟨7, 0, 141⟩) (b := loopOf Try.f7 28) (fun a => canonLt q1 (outG encS l7) s e8 n.sw.length a.1 a.2) (fun a => a.1 ≤ n.sw.length ∧ a.2.length ≤ a.1) (fun a => n.sw.length - a.1) _ ?_
  rintro ⟨i, acc⟩ ⟨hi, hacc⟩
  simp only at hi hacc
  obtain ⟨b1, b2, b3, b4, b5, b6, b7⟩ := hq.h1.ids
  obtain ⟨c1, c2, c3, c4, c5, c6, c7⟩ := (outG_sl encS l7).ids
  by_cases hlt : i < n.sw.length
  · have hix := fun H => index_sl (P := Try.prog) (H := H) hq.h1 slZ42 (k := .i64) (j := i) (by omega) (encSw_get hlt) rfl
    have hlt' : decide ((i : Int) < n.sw.length) = true := decide_eq_true (by omega)
    have hw : IntKind.i64.wrap ((i : Int) + 1) = ((i + 1 : Nat) : Int) := wrap64 (by omega) (by omega)
    have hdr : isoL s (n.sw.drop i) = if isoB s n.sw[i] = true then n.sw[i].name :: isoL s (n.sw.drop (i + 1)) else isoL s (n.sw.drop (i + 1)) := by rw [List.drop_eq_getElem_cons hlt, isoL_cons]
    rw [hdr]
    generalize n.sw[i] = x at hix
    simp only [encSw] at hix
    unfold isoB
    generalize x.name = nm at hix
    generalize x.opn = o at hix
    have qa := eqS_eq x.a s
    have qb := eqS_eq x.b s
    generalize eqS x.a s = p at qa
    generalize eqS x.b s = r at qb
    cases acc with
    | nil =>
      have f1 : flatM (.row [[.str nm]] 1 true) = true := flatG encS_no [nm] 1 true
      cases p with
      | true =>
        cases o with
        | true =>
          simp only [Bool.not_true, Bool.not_false, Bool.true_and, Bool.false_and, Bool.and_false, Bool.and_true, Bool.true_or, Bool.false_or, Bool.or_false, Bool.or_true, Bool.or_self, Bool.false_eq_true, if_true, if_false]
          simp (decide := true) (implicitDefEqProofs := false) only [Am.findLoop, Am.loopOf, Am.bodyOf, Am.firstReg, Nat.beq, cond_true, cond_false, Am.splice, Am.walkW, Am.stdW, id, reduceCtorEq, Nat.reduceAdd, Nat.reduceSub, Nat.reduceMul, List.forall_mem_cons, List.forall_mem_nil, false_implies, implies_true, Try.f7, factsOf7, canonLt, accG, accGH, hix, hlt', hw, qa, keep7_28, b1, b2, b3, b4, b5, b6, b7, c1, c2, c3, c4, c5, c6, c7, Am.compactK, Am.idsT, Am.closeStep, Am.keepW, Am.kstdW]
          exact ⟨(i + 1, []), rfl, ⟨hlt, by simp⟩, by simp only; omega, fun r hr => hr⟩
        | false =>
          simp only [Bool.not_true, Bool.not_false, Bool.true_and, Bool.false_and, Bool.and_false, Bool.and_true, Bool.true_or, Bool.false_or, Bool.or_false, Bool.or_true, Bool.or_self, Bool.false_eq_true, if_true, if_false]
          simp (decide := true) (implicitDefEqProofs := false) only [Am.findLoop, Am.loopOf, Am.bodyOf, Am.firstReg, Nat.beq, cond_true, cond_false, Am.splice, Am.walkW, Am.stdW, id, reduceCtorEq, Nat.reduceAdd, Nat.reduceSub, Nat.reduceMul, List.forall_mem_cons, List.forall_mem_nil, false_implies, implies_true, Try.f7, factsOf7, canonLt, accG, accGH, encS, hix, hlt', hw, qa, f1, appS_nil, List.replicate_succ, List.replicate_zero, buildSliceM, fillRow, appendF, appendH, src_lst, src_ref, elemsO_row, headOk_one, Nat.le_refl, keep7_28, b1, b2, b3, b4, b5, b6, b7, c1, c2, c3, c4, c5, c6, c7, Am.compactK, Am.idsT, Am.closeStep, Am.keepW, Am.kstdW]
          exact ⟨(i + 1, [nm]), rfl, ⟨hlt, by simp⟩, by simp only; omega, fun r hr => hr⟩
      | false =>
        cases r with
        | true =>
          cases o with
          | true =>
            simp only [Bool.not_true, Bool.not_false, Bool.true_and, Bool.false_and, Bool.and_false, Bool.and_true, Bool.true_or, Bool.false_or, Bool.or_false, Bool.or_true, Bool.or_self, Bool.false_eq_true, if_true, if_false]
            simp (decide := true) (implicitDefEqProofs := false) only [Am.findLoop, Am.loopOf, Am.bodyOf, Am.firstReg, Nat.beq, cond_true, cond_false, Am.splice, Am.walkW, Am.stdW, id, reduceCtorEq, Nat.reduceAdd, Nat.reduceSub, Nat.reduceMul, List.forall_mem_cons, List.forall_mem_nil, false_implies, implies_true, Try.f7, factsOf7, canonLt, accG, accGH, hix, hlt', hw, qa, qb, keep7_28, b1, b2, b3, b4, b5, b6, b7, c1, c2, c3, c4, c5, c6, c7, Am.compactK, Am.idsT, Am.closeStep, Am.keepW, Am.kstdW]
            exact ⟨(i + 1, []), rfl, ⟨hlt, by simp⟩, by simp only; omega, fun r hr => hr⟩
          | false =>
            simp only [Bool.not_true, Bool.not_false, Bool.true_and, Bool.false_and, Bool.and_false, Bool.and_true, Bool.true_or, Bool.false_or, Bool.or_false, Bool.or_true, Bool.or_self, Bool.false_eq_true, if_true, if_false]
            simp (decide := true) (implicitDefEqProofs := false) only [Am.findLoop, Am.loopOf, Am.bodyOf, Am.firstReg, Nat.beq, cond_true, cond_false, Am.splice, Am.walkW, Am.stdW, id, reduceCtorEq, Nat.reduceAdd, Nat.reduceSub, Nat.reduceMul, List.forall_mem_cons, List.forall_mem_nil, false_implies, implies_true, Try.f7, factsOf7, canonLt, accG, accGH, encS, hix, hlt', hw, qa, qb, f1, appS_nil, List.replicate_succ, List.replicate_zero, buildSliceM, fillRow, appendF, appendH, src_lst, src_ref, elemsO_row, headOk_one, Nat.le_refl, keep7_28, b1, b2, b3, b4, b5, b6, b7, c1, c2, c3, c4, c5, c6, c7, Am.compactK, Am.idsT, Am.closeStep, Am.keepW, Am.kstdW]
            exact ⟨(i + 1, [nm]), rfl, ⟨hlt, by simp⟩, by simp only; omega, fun r hr => hr⟩
        | false =>
          simp only [Bool.not_true, Bool.not_false, Bool.true_and, Bool.false_and, Bool.and_false, Bool.and_true, Bool.true_or, Bool.false_or, Bool.or_false, Bool.or_true, Bool.or_self, Bool.false_eq_true, if_true, if_false]
          simp (decide := true) (implicitDefEqProofs := false) only [Am.findLoop, Am.loopOf, Am.bodyOf, Am.firstReg, Nat.beq, cond_true, cond_false, Am.splice, Am.walkW, Am.stdW, id, reduceCtorEq, Nat.reduceAdd, Nat.reduceSub, Nat.reduceMul, List.forall_mem_cons, List.forall_mem_nil, false_implies, implies_true, Try.f7, factsOf7, canonLt, accG, accGH, hix, hlt', hw, qa, qb, keep7_28, b1, b2, b3, b4, b5, b6, b7, c1, c2, c3, c4, c5, c6, c7, Am.compactK, Am.idsT, Am.closeStep, Am.keepW, Am.kstdW]
          exact ⟨(i + 1, []), rfl, ⟨hlt, by simp⟩, by simp only; omega, fun r hr => hr⟩
    | cons y acc =>
      have f1 := flatG encS_no (y :: acc) 1 true
      have f2 := flatG encS_no (y :: acc ++ [nm]) 1 true
      have hap : ∀ H : List Mem, H[0]? = some (.row ((y :: acc).map encS) 1 true) → appendS H 1 16 (.ref 0 0 (acc.length + 1) (acc.length + 1)) [[.str nm]] = some (.ref H.length 0 (acc.length + 1 + 1) (acc.length + 1 + 1), H.set 0 .dead ++ [.row ((y :: acc ++ [nm]).map encS) 1 true]) := by
        intro H hH
        rw [List.map_append]
        exact appS_full hH (by simp) (by simp only [List.length_cons] at hacc; omega) _
      simp only [List.map_cons, List.cons_append] at f1 f2 hap
      have hnx : ∀ r, postLt (outG encS l7) e8 (y :: acc ++ [nm] ++ isoL s (n.sw.drop (i + 1))) r → postLt (outG encS l7) e8 (y :: (acc ++ nm :: isoL s (n.sw.drop (i + 1)))) r := fun r hr => by simpa using hr
      cases p with
      | true =>
        cases o with
        | true =>
          simp only [Bool.not_true, Bool.not_false, Bool.true_and, Bool.false_and, Bool.and_false, Bool.and_true, Bool.true_or, Bool.false_or, Bool.or_false, Bool.or_true, Bool.or_self, Bool.false_eq_true, if_true, if_false]
          simp (decide := true) (implicitDefEqProofs := false) only [Am.findLoop, Am.loopOf, Am.bodyOf, Am.firstReg, Nat.beq, cond_true, cond_false, Am.splice, Am.walkW, Am.stdW, id, reduceCtorEq, Nat.reduceAdd, Nat.reduceSub, Nat.reduceMul, List.forall_mem_cons, List.forall_mem_nil, false_implies, implies_true, Try.f7, factsOf7, canonLt, accG, accGH, hix, hlt', hw, qa, f1, keep7_28, b1, b2, b3, b4, b5, b6, b7, c1, c2, c3, c4, c5, c6, c7, Am.compactK, Am.idsT, Am.closeStep, Am.keepW, Am.kstdW]
          exact ⟨(i + 1, y :: acc), rfl, ⟨hlt, by simp only [List.length_cons] at hacc ⊢; omega⟩, by simp only; omega, fun r hr => hr⟩
        | false =>
          simp only [Bool.not_true, Bool.not_false, Bool.true_and, Bool.false_and, Bool.and_false, Bool.and_true, Bool.true_or, Bool.false_or, Bool.or_false, Bool.or_true, Bool.or_self, Bool.false_eq_true, if_true, if_false]
          simp (decide := true) (implicitDefEqProofs := false) only [Am.findLoop, Am.loopOf, Am.bodyOf, Am.firstReg, Nat.beq, cond_true, cond_false, Am.splice, Am.walkW, Am.stdW, id, reduceCtorEq, Nat.reduceAdd, Nat.reduceSub, Nat.reduceMul, List.forall_mem_cons, List.forall_mem_nil, false_implies, implies_true, Try.f7, factsOf7, canonLt, accG, accGH, hix, hlt', hw, qa, f1, f2, hap, List.replicate_succ, List.replicate_zero, buildSliceM, fillRow, appendF, appendH, src_lst, src_ref, elemsO_row, headOk_one, Nat.le_refl, keep7_28, b1, b2, b3, b4, b5, b6, b7, c1, c2, c3, c4, c5, c6, c7, Am.compactK, Am.idsT, Am.closeStep, Am.keepW, Am.kstdW]
          exact ⟨(i + 1, y :: acc ++ [nm]), by simp only [accG, accGH, List.cons_append, List.nil_append, List.length_append, List.length_cons, List.length_nil, List.map_cons], ⟨hlt, by simp only [List.length_cons, List.length_append, List.length_nil] at hacc ⊢; omega⟩, by simp only; omega, hnx⟩
      | false =>
        cases r with
        | true =>
          cases o with
          | true =>
            simp only [Bool.not_true, Bool.not_false, Bool.true_and, Bool.false_and, Bool.and_false, Bool.and_true, Bool.true_or, Bool.false_or, Bool.or_false, Bool.or_true, Bool.or_self, Bool.false_eq_true, if_true, if_false]
            simp (decide := true) (implicitDefEqProofs := false) only [Am.findLoop, Am.loopOf, Am.bodyOf, Am.firstReg, Nat.beq, cond_true, cond_false, Am.splice, Am.walkW, Am.stdW, id, reduceCtorEq, Nat.reduceAdd, Nat.reduceSub, Nat.reduceMul, List.forall_mem_cons, List.forall_mem_nil, false_implies, implies_true, Try.f7, factsOf7, canonLt, accG, accGH, hix, hlt', hw, qa, qb, f1, keep7_28, b1, b2, b3, b4, b5, b6, b7, c1, c2, c3, c4, c5, c6, c7, Am.compactK, Am.idsT, Am.closeStep, Am.keepW, Am.kstdW]
            exact ⟨(i + 1, y :: acc), rfl, ⟨hlt, by simp only [List.length_cons] at hacc ⊢; omega⟩, by simp only; omega, fun r hr => hr⟩
          | false =>
            simp only [Bool.not_true, Bool.not_false, Bool.true_and, Bool.false_and, Bool.and_false, Bool.and_true, Bool.true_or, Bool.false_or, Bool.or_false, Bool.or_true, Bool.or_self, Bool.false_eq_true, if_true, if_false]
            simp (decide := true) (implicitDefEqProofs := false) only [Am.findLoop, Am.loopOf, Am.bodyOf, Am.firstReg, Nat.beq, cond_true, cond_false, Am.splice, Am.walkW, Am.stdW, id, reduceCtorEq, Nat.reduceAdd, Nat.reduceSub, Nat.reduceMul, List.forall_mem_cons, List.forall_mem_nil, false_implies, implies_true, Try.f7, factsOf7, canonLt, accG, accGH, hix, hlt', hw, qa, qb, f1, f2, hap, List.replicate_succ, List.replicate_zero, buildSliceM, fillRow, appendF, appendH, src_lst, src_ref, elemsO_row, headOk_one, Nat.le_refl, keep7_28, b1, b2, b3, b4, b5, b6, b7, c1, c2, c3, c4, c5, c6, c7, Am.compactK, Am.idsT, Am.closeStep, Am.keepW, Am.kstdW]
            exact ⟨(i + 1, y :: acc ++ [nm]), by simp only [accG, accGH, List.cons_append, List.nil_append, List.length_append, List.length_cons, List.length_nil, List.map_cons], ⟨hlt, by simp only [List.length_cons, List.length_append, List.length_nil] at hacc ⊢; omega⟩, by simp only; omega, hnx⟩
        | false =>
          simp only [Bool.not_true, Bool.not_false, Bool.true_and, Bool.false_and, Bool.and_false, Bool.and_true, Bool.true_or, Bool.false_or, Bool.or_false, Bool.or_true, Bool.or_self, Bool.false_eq_true, if_true, if_false]
          simp (decide := true) (implicitDefEqProofs := false) only [Am.findLoop, Am.loopOf, Am.bodyOf, Am.firstReg, Nat.beq, cond_true, cond_false, Am.splice, Am.walkW, Am.stdW, id, reduceCtorEq, Nat.reduceAdd, Nat.reduceSub, Nat.reduceMul, List.forall_mem_cons, List.forall_mem_nil, false_implies, implies_true, Try.f7, factsOf7, canonLt, accG, accGH, hix, hlt', hw, qa, qb, f1, keep7_28, b1, b2, b3, b4, b5, b6, b7, c1, c2, c3, c4, c5, c6, c7, Am.compactK, Am.idsT, Am.closeStep, Am.keepW, Am.kstdW]
          exact ⟨(i + 1, y :: acc), rfl, ⟨hlt, by simp only [List.length_cons] at hacc ⊢; omega⟩, by simp only; omega, fun r hr => hr⟩
  · have hlt' : decide ((i : Int) < n.sw.length) = false := decide_eq_false (by omega)
    rw [List.drop_eq_nil_of_le (by omega), show isoL s [] = [] from rfl, List.append_nil]
    cases acc with
    | nil =>
      simp (decide := true) (implicitDefEqProofs := false) only [Am.findLoop, Am.loopOf, Am.bodyOf, Am.firstReg, Nat.beq, cond_true, cond_false, Am.splice, Am.walkW, Am.stdW, id, reduceCtorEq, Nat.reduceAdd, Nat.reduceSub, Nat.reduceMul, List.forall_mem_cons, List.forall_mem_nil, false_implies, implies_true, Try.f7, factsOf7, canonLt, accG, accGH, hlt', b7]
      refine ⟨rfl, ?_⟩
      simp (decide := true) (implicitDefEqProofs := false) only [Am.findLoop, Am.loopOf, Am.bodyOf, Am.firstReg, Nat.beq, cond_true, cond_false, Am.splice, Am.walkW, Am.stdW, id, reduceCtorEq, Nat.reduceAdd, Nat.reduceSub, Nat.reduceMul, List.forall_mem_cons, List.forall_mem_nil, false_implies, implies_true, Try.f7, factsOf7, outLt, accG, accGH, b1, b2, b3, b7, c1, c2, c3, c4, c5, c6, c7, Am.compactK, Am.idsT, Am.closeStep, Am.keepW, Am.kstdW]
    | cons y acc =>
      have f1 := flatG encS_no (y :: acc) 1 true
      simp only [List.map_cons] at f1
      simp (decide := true) (implicitDefEqProofs := false) only [Am.findLoop, Am.loopOf, Am.bodyOf, Am.firstReg, Nat.beq, cond_true, cond_false, Am.splice, Am.walkW, Am.stdW, id, reduceCtorEq, Nat.reduceAdd, Nat.reduceSub, Nat.reduceMul, List.forall_mem_cons, List.forall_mem_nil, false_implies, implies_true, Try.f7, factsOf7, canonLt, accG, accGH, hlt', b7]
      refine ⟨rfl, ?_⟩
      simp (decide := true) (implicitDefEqProofs := false) only [Am.findLoop, Am.loopOf, Am.bodyOf, Am.firstReg, Nat.beq, cond_true, cond_false, Am.splice, Am.walkW, Am.stdW, id, reduceCtorEq, Nat.reduceAdd, Nat.reduceSub, Nat.reduceMul, List.forall_mem_cons, List.forall_mem_nil, false_implies, implies_true, Try.f7, factsOf7, outLt, accG, accGH, f1, b1, b2, b3, b7, c1, c2, c3, c4, c5, c6, c7, Am.compactK, Am.idsT, Am.closeStep, Am.keepW, Am.kstdW]
theorem busG_len {n : Net} (hv : VNet n) : (busG n).length = manyF n := by
  have h := (grp_ok (nm := nmF n) (bus_rgs hv) n.nodes.length (Nat.le_refl _)).1
  have h' : ∀ v, v < (busG n).length ↔ ∃ k, k < n.nodes.length ∧ (busF n).getD k 0 = v := h
  rcases Nat.lt_trichotomy (busG n).length (manyF n) with hl | hl | hl
  · obtain ⟨i, hi, e⟩ := bus_hit hv hl
    exact absurd ((h' _).2 ⟨i, hi, e⟩) (by omega)
  · exact hl
  · obtain ⟨i, hi, e⟩ := (h' _).1 hl
    have := bus_lt hv hi
    omega
theorem iso_len (s : ByteArray) (l : List Sw) : (isoL s l).length ≤ l.length := by
  unfold isoL
  rw [List.length_map]
  exact List.length_filter_le _ _
set_option maxHeartbeats 32000000 in
theorem buses_main (n : Net) (q0 q1 q2 q3 q4 q5 : PV) (hq : NetQ n q0 q1 q2 q3 q4 q5) (s : ByteArray) (h1 : netE n = 0) : Holds (L1.rn 7 [.agg [q0, q1, q2, q3, q4, q5], .str s] []) (fun r => r.1 = .bool true) := by
  have hfact := stationFact_call
  have hne := hq.exp
  have hnr := hq.rch
  have fN := hq.no
  unfold rowN at fN
  have hv := vnet h1
  have hge := netError_call n q0 q1 q2 q3 q4 q5 hq
  rw [h1] at hge
  have hll := hv.ls
  have hln := hv.ln
  have hlm : n.nodes.length ≤ maxLen := by unfold maxLen; omega
  have hs := has_call q0 n.nodes hq.h0 s hlm
  have l0 := fun H => (lens hq H).1
  have l1 := fun H => (lens hq H).2.1
  have n0e := fun H => hq.h0.plain.exp (H := H)
  have n0r := fun H => hq.h0.rch (H := H)
  have hb := sbb_call n q0 q1 q2 q3 q4 q5 hq
  rw [show sBbV n = .tup [outG encL (busG n), .int .i64 0] by unfold sBbV; rw [if_pos h1]] at hb
  have hi := siso_call n q0 q1 q2 q3 q4 q5 hq s
  have hrb := rbuses_call n q0 q1 q2 q3 q4 q5 hq hv
  have hBl := (bus_num hv).1
  have hmo := most_call (outN (busF n)) (busF n) (outN_sl' (busF n)) (by omega) (fun x hx => by
    obtain ⟨i, hi, he⟩ := mem_getD hx
    have := bus_le hv (i := i) (by omega)
    omega)
  have hmm : mostF 0 (busF n) = (busG n).length := (busG_len hv).symm
  rw [hmm] at hmo
  have hlB := fun H => len_sl (P := Try.prog) (H := H) (outG_sl encL (busG n)) slZ72
  simp only [List.length_map] at hlB
  have hd : decide (((busG n).length : Int) = ((busG n).length : Int)) = true := decide_eq_true rfl
  have e1 := fun H => (outN_sl' (busF n)).plain.exp (H := H)
  have r1 := fun H => (outN_sl' (busF n)).rch (H := H)
  obtain ⟨a1, a2, a3, a4, a5, a6, a7⟩ := hq.h0.ids
  obtain ⟨b1, b2, b3, b4, b5, b6, b7⟩ := hq.h1.ids
  obtain ⟨c1, c2, c3, c4, c5, c6, c7⟩ := (outG_sl encL (busG n)).ids
  obtain ⟨d1, d2, d3, d4, d5, d6, d7⟩ := (outN_sl' (busF n)).ids
  cases hM : memS s n.nodes with
  | true =>
    rw [hM] at hs
    have hi0 : sIsoV n s = .tup [outG encS (isoL s n.sw), .int .i64 0] := by
      have : stE n [s] = 0 := by unfold stE; rw [if_neg (by simpa using h1), if_pos (by simp [allM, hM])]
      unfold sIsoV; rw [if_neg (by simpa using this)]
    rw [hi0] at hi
    obtain ⟨g1, g2, g3, g4, g5, g6, g7⟩ := (outG_sl encS (isoL s n.sw)).ids
    have hlp := law_buses n q0 q1 q2 q3 q4 q5 hq hv (isoL s n.sw) s 0 0
    have hli := law_iso n q0 q1 q2 q3 q4 q5 hq (isoL s n.sw) s 0 hll (0, [])
    simp only [List.drop_zero, List.nil_append] at hli
    have hwl := iso_len s n.sw
    have heq := fun p hp => equalS_call (outG encS (isoL s n.sw)) p (isoL s n.sw) (outS_sl _) hp (by omega)
    have x1 := fun H => (outS_sl (isoL s n.sw)).plain.exp (H := H)
    have y1 := fun H => (outS_sl (isoL s n.sw)).rch (H := H)
    generalize isoL s n.sw = w at *
    refine rn_rule (fn := Try.f7) (code := bodyOf Try.f7) ok7 Try.func7 (by kernel_rfl) (Nat.le_of_ble_eq_true (by kernel_rfl)) ?_
    simp (maxSteps := 2000000) (decide := true) (implicitDefEqProofs := false) only [Am.findLoop, Am.loopOf, Am.bodyOf, Am.firstReg, Nat.beq, cond_true, cond_false, Am.splice, Am.walkW, Am.stdW, id, reduceCtorEq, Nat.reduceAdd, Nat.reduceSub, Nat.reduceMul, List.forall_mem_cons, List.forall_mem_nil, false_implies, implies_true, Try.f7, factsOf7, hfact, hne, hnr, hb, hi, hge, hrb, hmo, hlB, hd, e1, r1]
    simp only [holds_bind]
    refine (hlp _ (by omega) ?_).mono ?_
    · show maskK (hints.keep 7 12) _ _ = _
      simp (decide := true) (implicitDefEqProofs := false) only [Am.findLoop, Am.loopOf, Am.bodyOf, Am.firstReg, Nat.beq, cond_true, cond_false, Am.splice, Am.walkW, Am.stdW, id, reduceCtorEq, Nat.reduceAdd, Nat.reduceSub, Nat.reduceMul, List.forall_mem_cons, List.forall_mem_nil, false_implies, implies_true, Try.f7, factsOf7, keep7_12, canonLo, rowN, fN, a1, a2, a3, a4, a5, a6, a7, b1, b2, b3, b4, b5, b6, b7, c1, c2, c3, c4, c5, c6, c7, d1, d2, d3, d4, d5, d6, d7, g1, g2, g3, g4, g5, g6, g7, Am.compactK, Am.idsT, Am.closeStep, Am.keepW, Am.kstdW]
      rfl
    · rintro ⟨e, s'⟩ ⟨h5, h6⟩
      cases h5
      rw [keepB7_0] at h6
      simp (maxSteps := 2000000) (decide := true) (implicitDefEqProofs := false) only [Am.findLoop, Am.loopOf, Am.bodyOf, Am.firstReg, Nat.beq, cond_true, cond_false, Am.splice, Am.walkW, Am.stdW, id, reduceCtorEq, Nat.reduceAdd, Nat.reduceSub, Nat.reduceMul, List.forall_mem_cons, List.forall_mem_nil, false_implies, implies_true, Try.f7, factsOf7, h6, outLo, rowN, n0e, n0r, hs, l1]
      simp only [holds_bind]
      refine (hli _ ⟨by omega, by simp⟩ ?_).mono ?_
      · show maskK (hints.keep 7 28) _ _ = _
        simp (decide := true) (implicitDefEqProofs := false) only [Am.findLoop, Am.loopOf, Am.bodyOf, Am.firstReg, Nat.beq, cond_true, cond_false, Am.splice, Am.walkW, Am.stdW, id, reduceCtorEq, Nat.reduceAdd, Nat.reduceSub, Nat.reduceMul, List.forall_mem_cons, List.forall_mem_nil, false_implies, implies_true, Try.f7, factsOf7, keep7_28, canonLt, accG, accGH, fN, a1, a2, a3, a4, a5, a6, a7, b1, b2, b3, b4, b5, b6, b7, c1, c2, c3, c4, c5, c6, c7, d1, d2, d3, d4, d5, d6, d7, g1, g2, g3, g4, g5, g6, g7, Am.compactK, Am.idsT, Am.closeStep, Am.keepW, Am.kstdW]
        rfl
      · rintro ⟨e, s'⟩ ⟨h5, h6⟩
        cases h5
        rw [keepB7_4] at h6
        cases w with
        | nil =>
          have heq := heq .nils (.inl ⟨rfl, rfl⟩)
          simp only [outG] at heq
          simp (maxSteps := 2000000) (decide := true) (implicitDefEqProofs := false) only [Am.findLoop, Am.loopOf, Am.bodyOf, Am.firstReg, Nat.beq, cond_true, cond_false, Am.splice, Am.walkW, Am.stdW, id, reduceCtorEq, Nat.reduceAdd, Nat.reduceSub, Nat.reduceMul, List.forall_mem_cons, List.forall_mem_nil, false_implies, implies_true, Try.f7, factsOf7, h6, outLt, accG, accGH, outG, heq]
        | cons y acc =>
          have heq := heq (.lst ((y :: acc).map encS)) (.inr rfl)
          have hex : ∀ H : List Mem, H[0]? = some (.row ((y :: acc).map encS) 1 true) → exp expFuel H (.ref 0 0 (acc.length + 1) (acc.length + 1)) = some (.lst ((y :: acc).map encS)) := fun H hH => exp_full hH (by simp) (by
            intro c hc v hv
            obtain ⟨x, _, rfl⟩ := List.mem_map.1 hc
            exact encS_plainK x v hv)
          simp only [List.map_cons] at heq hex
          simp (maxSteps := 2000000) (decide := true) (implicitDefEqProofs := false) only [Am.findLoop, Am.loopOf, Am.bodyOf, Am.firstReg, Nat.beq, cond_true, cond_false, Am.splice, Am.walkW, Am.stdW, id, reduceCtorEq, Nat.reduceAdd, Nat.reduceSub, Nat.reduceMul, List.forall_mem_cons, List.forall_mem_nil, false_implies, implies_true, Try.f7, factsOf7, h6, outLt, accG, accGH, heq, hex, x1, y1]
  | false =>
    rw [hM] at hs
    have hi0 : sIsoV n s = .tup [outG encS [], .int .i64 6] := by
      have : stE n [s] = 6 := by unfold stE; rw [if_neg (by simpa using h1), if_neg (by simp [allM, hM])]
      unfold sIsoV; rw [if_pos (by rw [this]; decide), this]; rfl
    rw [hi0] at hi
    obtain ⟨g1, g2, g3, g4, g5, g6, g7⟩ := (outG_sl encS ([] : List ByteArray)).ids
    have hlp := law_buses n q0 q1 q2 q3 q4 q5 hq hv [] s 6 0
    have lz := fun H => len_nils (P := Try.prog) (H := H) slZ41
    refine rn_rule (fn := Try.f7) (code := bodyOf Try.f7) ok7 Try.func7 (by kernel_rfl) (Nat.le_of_ble_eq_true (by kernel_rfl)) ?_
    simp (maxSteps := 2000000) (decide := true) (implicitDefEqProofs := false) only [Am.findLoop, Am.loopOf, Am.bodyOf, Am.firstReg, Nat.beq, cond_true, cond_false, Am.splice, Am.walkW, Am.stdW, id, reduceCtorEq, Nat.reduceAdd, Nat.reduceSub, Nat.reduceMul, List.forall_mem_cons, List.forall_mem_nil, false_implies, implies_true, Try.f7, factsOf7, hfact, hne, hnr, hb, hi, hge, hrb, hmo, hlB, hd, e1, r1]
    simp only [holds_bind]
    refine (hlp _ (by omega) ?_).mono ?_
    · show maskK (hints.keep 7 12) _ _ = _
      simp (decide := true) (implicitDefEqProofs := false) only [Am.findLoop, Am.loopOf, Am.bodyOf, Am.firstReg, Nat.beq, cond_true, cond_false, Am.splice, Am.walkW, Am.stdW, id, reduceCtorEq, Nat.reduceAdd, Nat.reduceSub, Nat.reduceMul, List.forall_mem_cons, List.forall_mem_nil, false_implies, implies_true, Try.f7, factsOf7, keep7_12, canonLo, rowN, fN, a1, a2, a3, a4, a5, a6, a7, b1, b2, b3, b4, b5, b6, b7, c1, c2, c3, c4, c5, c6, c7, d1, d2, d3, d4, d5, d6, d7, g1, g2, g3, g4, g5, g6, g7, Am.compactK, Am.idsT, Am.closeStep, Am.keepW, Am.kstdW]
      rfl
    · rintro ⟨e, s'⟩ ⟨h5, h6⟩
      cases h5
      rw [keepB7_0] at h6
      simp (maxSteps := 2000000) (decide := true) (implicitDefEqProofs := false) only [Am.findLoop, Am.loopOf, Am.bodyOf, Am.firstReg, Nat.beq, cond_true, cond_false, Am.splice, Am.walkW, Am.stdW, id, reduceCtorEq, Nat.reduceAdd, Nat.reduceSub, Nat.reduceMul, List.forall_mem_cons, List.forall_mem_nil, false_implies, implies_true, Try.f7, factsOf7, h6, outLo, outG, rowN, n0e, n0r, hs, lz]
set_option maxHeartbeats 16000000 in
theorem buses_run (n : Net) (q0 q1 q2 q3 q4 q5 : PV) (hq : NetQ n q0 q1 q2 q3 q4 q5) (s : ByteArray) : Holds (L1.rn 7 [.agg [q0, q1, q2, q3, q4, q5], .str s] []) (fun r => r.1 = .bool true) := by
  by_cases h1 : netE n = 0
  · exact buses_main n q0 q1 q2 q3 q4 q5 hq s h1
  have hfact := stationFact_call
  have hne := hq.exp
  have hnr := hq.rch
  have hge := netError_call n q0 q1 q2 q3 q4 q5 hq
  have hb := sbb_call n q0 q1 q2 q3 q4 q5 hq
  rw [show sBbV n = .tup [.nils, .int .i64 (netE n)] by unfold sBbV; rw [if_neg h1]] at hb
  have hi := siso_call n q0 q1 q2 q3 q4 q5 hq s
  have he : stE n [s] = netE n := by unfold stE; rw [if_pos h1]
  rw [show sIsoV n s = .tup [.nils, .int .i64 (netE n)] by unfold sIsoV; rw [if_pos (by rw [he]; exact h1), he]] at hi
  have lz := fun H => len_nils (P := Try.prog) (H := H) slZ41
  have lz2 := fun H => len_nils (P := Try.prog) (H := H) slZ72
  have w0 : IntKind.i64.wrap ((0 : Int) + 0) = 0 := by decide
  have h1' : decide (netE n = 0) = false := decide_eq_false h1
  have hd : decide (netE n = netE n) = true := decide_eq_true rfl
  refine rn_rule (fn := Try.f7) (code := bodyOf Try.f7) ok7 Try.func7 (by kernel_rfl) (Nat.le_of_ble_eq_true (by kernel_rfl)) ?_
  simp (maxSteps := 2000000) (decide := true) (implicitDefEqProofs := false) only [Am.findLoop, Am.loopOf, Am.bodyOf, Am.firstReg, Nat.beq, cond_true, cond_false, Am.splice, Am.walkW, Am.stdW, id, reduceCtorEq, Nat.reduceAdd, Nat.reduceSub, Nat.reduceMul, List.forall_mem_cons, List.forall_mem_nil, false_implies, implies_true, Try.f7, factsOf7, hfact, hb, hi, hge, hne, hnr, h1', hd, lz, lz2, w0]
theorem tys_law2 : omap (tyOf Try.prog 20) Try.f7.params.toList = some [tyNet, .str] := by kernel_rfl
theorem law_eval2 (qs : List PV) (h : HasArgs [tyNet, .str] qs) : ∃ n H', (evalF Try.prog hints n).rn 7 qs [] = some (.bool true, H') := by
  simp only [HasArgs] at h
  obtain ⟨p, _, rfl, h1, p2, _, rfl, h2, rfl⟩ := h
  obtain ⟨n, q0, q1, q2, q3, q4, q5, rfl, hq⟩ := net_get p h1
  obtain ⟨a, rfl, _⟩ := arg_str h2
  obtain ⟨⟨v, H'⟩, hr, hv⟩ := buses_run n q0 q1 q2 q3 q4 q5 hq a
  simp only at hv
  subst hv
  obtain ⟨k, hk⟩ := lim_evalF hr
  exact ⟨k, H', hk⟩
open Go.ChangeShapes Go.WideShapes Go.ChangeAt Go.RowKit
theorem law_lifted2 (os : Os) (started : os.Started) (H : Type) (enc : TypeId × Value → H) :
    ReturnsInHanded {} Try.checked os 7 .any (Rows.stationBusesSpec.pre6 enc Try.prog Try.f7 Rows.stationBusesRow.domain false) (Rows.stationBusesSpec.post enc Try.prog Try.f7 false true false false) := by
  refine returnsInHanded_of_change_sized (C := Try.checked) own0 started (by kernel_rfl) Try.func7
    (ChangeSpec.witness6 (enc := enc) (C := Try.checked) false ⟨#[], #[.agg #[.slice none 0 0, .slice none 0 0, .slice none 0 0, .slice none 0 0, .slice none 0 0, .slice none 0 0], .string ByteArray.empty], []⟩ 8 (by kernel_rfl) (by kernel_rfl) (by kernel_rfl) (by kernel_rfl)) ?_
  intro W base args ds gs before hval hW _ hsz _
  exact law_contract (fn := Try.f7) (s := Rows.stationBusesSpec) (tb := 4) static prims laidOut0 rfl (by kernel_rfl) Try.underlying4 (of_decide_eq_true (by kernel_rfl)) tys_law2 law_eval2 (by
    intro ds hds
    have h3 : Try.f7.params.size = 2 := by kernel_rfl
    rw [h3] at hds
    match ds, hds with
    | [_, _], _ => rfl) hval hW hsz
theorem stationBuses_holds : Rows.StationBusesSaid :=
  OpenClaim.holds_of_wide 7 Try.f7 rfl rfl rfl rfl rfl rfl rfl ⟨rfl, rfl, rfl, rfl, rfl⟩ rfl rfl rfl rfl rfl (by kernel_rfl) Try.func7 (by kernel_rfl)
    (of_decide_eq_true (by kernel_rfl)) (by unfold Func.isWrapper; first | (rw [if_pos (by decide +kernel)]; kernel_rfl) | (rw [if_neg (by decide +kernel)]; exact ⟨rfl, rfl⟩))
    (fun os started H enc _ => law_lifted2 os started H enc)
end Go.Proofs.Ytcclbkkgpcpikaa

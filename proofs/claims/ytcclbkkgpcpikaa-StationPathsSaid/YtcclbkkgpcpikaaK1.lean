import Derived.Test.YtcclbkkgpcpikaaJ5
set_option linter.unusedSimpArgs false
set_option linter.unusedVariables false
namespace Go.Proofs.Ytcclbkkgpcpikaa
open Go.Am
set_option maxRecDepth 100000
def swNm (n : Net) (i : Nat) : ByteArray := match n.sw[i]? with
  | some x => x.name
  | none => ByteArray.empty
theorem swNm_get {n : Net} {i : Nat} (h : i < n.sw.length) : swNm n i = n.sw[i].name := by unfold swNm; rw [List.getElem?_eq_getElem h]
theorem encS_no (x : ByteArray) : ∀ v ∈ encS x, noIds v = true := by
  intro v hv
  simp only [encS, List.mem_cons, List.not_mem_nil, or_false] at hv
  subst hv; rfl
theorem encS_plainK (x : ByteArray) : ∀ v ∈ encS x, Plain v := by
  intro v hv
  simp only [encS, List.mem_cons, List.not_mem_nil, or_false] at hv
  subst hv
  exact plain_str x
/-! the names of a way -/
noncomputable def canonNm (q0 q1 q2 q3 q4 q5 qw qa : PV) (len i : Nat) (acc : List ByteArray) : St :=
  ⟨[(2, qa), (3, .ptr 0 0 0), (7, accG 1 acc), (10, qw), (11, .int .i64 len), (12, .int .i64 i)], rowN q0 q1 q2 q3 q4 q5 :: accGH encS 1 acc⟩
def postNm (full : List ByteArray) (r : Ex × St) : Prop := r.1 = .exit 0 ∧ maskK (hints.keepB 85 0) ⟨85, 0, 30⟩ r.2 = some ⟨[(7, accG 0 full)], accGH encS 1 full⟩
set_option maxHeartbeats 8000000 in
theorem snames_loop (n : Net) (q0 q1 q2 q3 q4 q5 : PV) (hq : NetQ n q0 q1 q2 q3 q4 q5) (qw qa : PV) (w at_ : List Nat) (hqw : Sl qw (w.map encN)) (hqa : Sl qa (at_.map encN)) (hw0 : w.length ≤ 1000) (hw1 : ∀ k ∈ w, k < at_.length) (ha : ∀ j ∈ at_, j < n.sw.length) (hl : n.sw.length ≤ 32) : ∀ (a : Nat × List ByteArray) (t : St), (a.1 ≤ w.length ∧ a.2.length ≤ a.1) →
    maskK (hints.keep 85 (firstReg (loopOf Try.f85 3))) ⟨85, 0, 30⟩ t = some (canonNm q0 q1 q2 q3 q4 q5 qw qa w.length a.1 a.2) →
    Holds (L1.ex ⟨85, 0, 30⟩ (.loop (loopOf Try.f85 3)) t) (postNm (a.2 ++ (w.drop a.1).map fun k => swNm n (at_.getD k 0))) := by
  refine loop_rule (σ := Nat × List ByteArray) (c := ⟨85, 0, 30⟩) (b := loopOf Try.f85 3) (fun a => canonNm q0 q1 q2 q3 q4 q5 qw qa w.length a.1 a.2) (fun a => a.1 ≤ w.length ∧ a.2.length ≤ a.1) (fun a => w.length - a.1) _ ?_
  rintro ⟨i, acc⟩ ⟨hi, hacc⟩
  simp only at hi hacc
  have fN := hq.no
  unfold rowN at fN
  obtain ⟨a1, a2, a3, a4, a5, a6, a7⟩ := hqw.ids
  obtain ⟨b1, b2, b3, b4, b5, b6, b7⟩ := hqa.ids
  by_cases hlt : i < w.length
  · have hix := fun H => index_sl (P := Try.prog) (H := H) hqw slZ24 (k := .i64) (j := i) (by omega) (by rw [Int.toNat_natCast]; exact getN hlt) rfl
    have hlt' : decide ((i : Int) < w.length) = true := decide_eq_true (by omega)
    have hw : IntKind.i64.wrap ((i : Int) + 1) = ((i + 1 : Nat) : Int) := wrap64 (by omega) (by omega)
    have hk := hw1 _ (List.getElem_mem hlt)
    have hdr : (w.drop i).map (fun k => swNm n (at_.getD k 0)) = swNm n (at_.getD w[i] 0) :: (w.drop (i + 1)).map (fun k => swNm n (at_.getD k 0)) := by rw [List.drop_eq_getElem_cons hlt, List.map_cons]
    rw [hdr]
    generalize w[i] = k at hix hk
    have hj := ha _ (List.getElem_mem hk)
    have hia := fun H => index_sl (P := Try.prog) (H := H) hqa slZ24 (k := .i64) (j := k) (by omega) (by rw [Int.toNat_natCast]; exact getN hk) rfl
    rw [getD_get hk]
    generalize at_[k] = j at hia hj
    have his := fun H => index_sl (P := Try.prog) (H := H) hq.h1 slZ42 (k := .i64) (j := j) (by omega) (encSw_get hj) rfl
    rw [swNm_get hj]
    generalize n.sw[j] = x at his
    simp only [encSw] at his
    generalize x.name = s at his
    cases acc with
    | nil =>
      have f1 : flatM (.row [[.str s]] 1 true) = true := flatG encS_no [s] 1 true
      simp (decide := true) (implicitDefEqProofs := false) only [Am.findLoop, Am.loopOf, Am.bodyOf, Am.firstReg, Nat.beq, cond_true, cond_false, Am.splice, Am.walkW, Am.stdW, id, reduceCtorEq, Nat.reduceAdd, Nat.reduceSub, Nat.reduceMul, List.forall_mem_cons, List.forall_mem_nil, false_implies, implies_true, Try.f85, factsOf85, canonNm, rowN, accG, accGH, encS, hix, hia, his, hlt', hw, fN, f1, appS_nil, List.replicate_succ, List.replicate_zero, buildSliceM, fillRow, appendF, appendH, src_lst, src_ref, elemsO_row, headOk_one, Nat.le_refl, keep85_3, a1, a2, a3, a4, a5, a6, a7, b1, b2, b3, b4, b5, b6, b7, Am.compactK, Am.idsT, Am.closeStep, Am.keepW, Am.kstdW]
      exact ⟨(i + 1, [s]), rfl, ⟨hlt, by simp⟩, by simp only; omega, fun r hr => hr⟩
    | cons y acc =>
      have f1 := flatG encS_no (y :: acc) 1 true
      have f2 := flatG encS_no (y :: acc ++ [s]) 1 true
      have hap : ∀ H : List Mem, H[1]? = some (.row ((y :: acc).map encS) 1 true) → appendS H 1 16 (.ref 1 0 (acc.length + 1) (acc.length + 1)) [[.str s]] = some (.ref H.length 0 (acc.length + 1 + 1) (acc.length + 1 + 1), H.set 1 .dead ++ [.row ((y :: acc ++ [s]).map encS) 1 true]) := by
        intro H hH
        rw [List.map_append]
        exact appS_full hH (by simp) (by simp only [List.length_cons] at hacc; omega) _
      simp only [List.map_cons, List.cons_append] at f1 f2 hap
      have hnx : ∀ r, postNm (y :: acc ++ [s] ++ (w.drop (i + 1)).map fun k => swNm n (at_.getD k 0)) r → postNm (y :: (acc ++ s :: (w.drop (i + 1)).map fun k => swNm n (at_.getD k 0))) r := fun r hr => by simpa using hr
      simp (decide := true) (implicitDefEqProofs := false) only [Am.findLoop, Am.loopOf, Am.bodyOf, Am.firstReg, Nat.beq, cond_true, cond_false, Am.splice, Am.walkW, Am.stdW, id, reduceCtorEq, Nat.reduceAdd, Nat.reduceSub, Nat.reduceMul, List.forall_mem_cons, List.forall_mem_nil, false_implies, implies_true, Try.f85, factsOf85, canonNm, rowN, accG, accGH, hix, hia, his, hlt', hw, fN, f1, f2, hap, List.replicate_succ, List.replicate_zero, buildSliceM, fillRow, appendF, appendH, src_lst, src_ref, elemsO_row, headOk_one, Nat.le_refl, keep85_3, a1, a2, a3, a4, a5, a6, a7, b1, b2, b3, b4, b5, b6, b7, Am.compactK, Am.idsT, Am.closeStep, Am.keepW, Am.kstdW]
      exact ⟨(i + 1, y :: acc ++ [s]), by simp only [accG, accGH, List.cons_append, List.nil_append, List.length_append, List.length_cons, List.length_nil, List.map_cons], ⟨hlt, by simp only [List.length_cons, List.length_append, List.length_nil] at hacc ⊢; omega⟩, by simp only; omega, hnx⟩
  · have hlt' : decide ((i : Int) < w.length) = false := decide_eq_false (by omega)
    rw [List.drop_eq_nil_of_le (by omega), List.map_nil, List.append_nil]
    cases acc with
    | nil =>
      simp (decide := true) (implicitDefEqProofs := false) only [Am.findLoop, Am.loopOf, Am.bodyOf, Am.firstReg, Nat.beq, cond_true, cond_false, Am.splice, Am.walkW, Am.stdW, id, reduceCtorEq, Nat.reduceAdd, Nat.reduceSub, Nat.reduceMul, List.forall_mem_cons, List.forall_mem_nil, false_implies, implies_true, Try.f85, factsOf85, canonNm, rowN, accG, accGH, hlt', a7]
      refine ⟨rfl, ?_⟩
      simp (decide := true) (implicitDefEqProofs := false) only [Am.findLoop, Am.loopOf, Am.bodyOf, Am.firstReg, Nat.beq, cond_true, cond_false, Am.splice, Am.walkW, Am.stdW, id, reduceCtorEq, Nat.reduceAdd, Nat.reduceSub, Nat.reduceMul, List.forall_mem_cons, List.forall_mem_nil, false_implies, implies_true, Try.f85, factsOf85, accG, accGH, fN, a1, a2, a3, a7, b1, b2, b3, b7, Am.compactK, Am.idsT, Am.closeStep, Am.keepW, Am.kstdW]
    | cons y acc =>
      have f1 := flatG encS_no (y :: acc) 1 true
      simp only [List.map_cons] at f1
      simp (decide := true) (implicitDefEqProofs := false) only [Am.findLoop, Am.loopOf, Am.bodyOf, Am.firstReg, Nat.beq, cond_true, cond_false, Am.splice, Am.walkW, Am.stdW, id, reduceCtorEq, Nat.reduceAdd, Nat.reduceSub, Nat.reduceMul, List.forall_mem_cons, List.forall_mem_nil, false_implies, implies_true, Try.f85, factsOf85, canonNm, rowN, accG, accGH, hlt', a7]
      refine ⟨rfl, ?_⟩
      simp (decide := true) (implicitDefEqProofs := false) only [Am.findLoop, Am.loopOf, Am.bodyOf, Am.firstReg, Nat.beq, cond_true, cond_false, Am.splice, Am.walkW, Am.stdW, id, reduceCtorEq, Nat.reduceAdd, Nat.reduceSub, Nat.reduceMul, List.forall_mem_cons, List.forall_mem_nil, false_implies, implies_true, Try.f85, factsOf85, accG, accGH, fN, f1, a1, a2, a3, a7, b1, b2, b3, b7, Am.compactK, Am.idsT, Am.closeStep, Am.keepW, Am.kstdW]
set_option maxHeartbeats 8000000 in
theorem snames_call (n : Net) (q0 q1 q2 q3 q4 q5 : PV) (hq : NetQ n q0 q1 q2 q3 q4 q5) (qw qa : PV) (w at_ : List Nat) (hqw : Sl qw (w.map encN)) (hqa : Sl qa (at_.map encN)) (hw0 : w.length ≤ 1000) (hw1 : ∀ k ∈ w, k < at_.length) (ha : ∀ j ∈ at_, j < n.sw.length) (hl : n.sw.length ≤ 32) : pureCall hints L1 85 [.agg [q0, q1, q2, q3, q4, q5], qw, qa] = some (outG encS (w.map fun k => swNm n (at_.getD k 0))) := by
  refine pure_of prim85 (Holds.mono (Q := fun r => r = (accG 0 (w.map fun k => swNm n (at_.getD k 0)), accGH encS 1 (w.map fun k => swNm n (at_.getD k 0)))) ?_ fun r hr => by
    rw [hr]
    exact exp_accG encS_plainK _ 38 0 rfl rfl)
  have hlen := fun H => len_sl (P := Try.prog) (H := H) hqw slZ24
  simp only [List.length_map] at hlen
  have fN := hq.no
  unfold rowN at fN
  obtain ⟨a1, a2, a3, a4, a5, a6, a7⟩ := hqw.ids
  obtain ⟨b1, b2, b3, b4, b5, b6, b7⟩ := hqa.ids
  refine rn_rule (fn := Try.f85) (code := bodyOf Try.f85) ok85 Try.func85 (by kernel_rfl) (Nat.le_of_ble_eq_true (by kernel_rfl)) ?_
  simp (decide := true) (implicitDefEqProofs := false) only [Am.findLoop, Am.loopOf, Am.bodyOf, Am.firstReg, Nat.beq, cond_true, cond_false, Am.splice, Am.walkW, Am.stdW, id, reduceCtorEq, Nat.reduceAdd, Nat.reduceSub, Nat.reduceMul, List.forall_mem_cons, List.forall_mem_nil, false_implies, implies_true, Try.f85, factsOf85, hlen]
  simp only [holds_bind]
  refine (snames_loop n q0 q1 q2 q3 q4 q5 hq qw qa w at_ hqw hqa hw0 hw1 ha hl (0, []) _ ⟨by omega, by simp⟩ ?_).mono ?_
  · show maskK (hints.keep 85 3) _ _ = _
    simp (decide := true) (implicitDefEqProofs := false) only [Am.findLoop, Am.loopOf, Am.bodyOf, Am.firstReg, Nat.beq, cond_true, cond_false, Am.splice, Am.walkW, Am.stdW, id, reduceCtorEq, Nat.reduceAdd, Nat.reduceSub, Nat.reduceMul, List.forall_mem_cons, List.forall_mem_nil, false_implies, implies_true, Try.f85, factsOf85, keep85_3, canonNm, rowN, accG, accGH, fN, a1, a2, a3, a4, a5, a6, a7, b1, b2, b3, b4, b5, b6, b7, Am.compactK, Am.idsT, Am.closeStep, Am.keepW, Am.kstdW]
    rfl
  · rintro ⟨e, s'⟩ ⟨h5, h6⟩
    cases h5
    rw [keepB85_0] at h6
    simp only [List.drop_zero, List.nil_append] at h6
    simp (decide := true) (implicitDefEqProofs := false) only [Am.findLoop, Am.loopOf, Am.bodyOf, Am.firstReg, Nat.beq, cond_true, cond_false, Am.splice, Am.walkW, Am.stdW, id, reduceCtorEq, Nat.reduceAdd, Nat.reduceSub, Nat.reduceMul, List.forall_mem_cons, List.forall_mem_nil, false_implies, implies_true, Try.f85, factsOf85, h6]
/-! the names of the law -/
noncomputable def canonNd (q0 q1 q2 q3 q4 q5 qw : PV) (len i : Nat) (acc : List ByteArray) : St :=
  ⟨[(2, .ptr 0 0 0), (5, accG 1 acc), (8, qw), (9, .int .i64 len), (10, .int .i64 i)], rowN q0 q1 q2 q3 q4 q5 :: accGH encS 1 acc⟩
def postNd (full : List ByteArray) (r : Ex × St) : Prop := r.1 = .exit 0 ∧ maskK (hints.keepB 49 0) ⟨49, 0, 25⟩ r.2 = some ⟨[(5, accG 0 full)], accGH encS 1 full⟩
set_option maxHeartbeats 8000000 in
theorem named_loop (n : Net) (q0 q1 q2 q3 q4 q5 : PV) (hq : NetQ n q0 q1 q2 q3 q4 q5) (qw : PV) (w : List Nat) (hqw : Sl qw (w.map encN)) (hw0 : w.length ≤ 1000) (hw1 : ∀ k ∈ w, k < n.sw.length) (hl : n.sw.length ≤ 32) : ∀ (a : Nat × List ByteArray) (t : St), (a.1 ≤ w.length ∧ a.2.length ≤ a.1) →
    maskK (hints.keep 49 (firstReg (loopOf Try.f49 3))) ⟨49, 0, 25⟩ t = some (canonNd q0 q1 q2 q3 q4 q5 qw w.length a.1 a.2) →
    Holds (L1.ex ⟨49, 0, 25⟩ (.loop (loopOf Try.f49 3)) t) (postNd (a.2 ++ (w.drop a.1).map fun k => swNm n k)) := by
  refine loop_rule (σ := Nat × List ByteArray) (c := ⟨49, 0, 25⟩) (b := loopOf Try.f49 3) (fun a => canonNd q0 q1 q2 q3 q4 q5 qw w.length a.1 a.2) (fun a => a.1 ≤ w.length ∧ a.2.length ≤ a.1) (fun a => w.length - a.1) _ ?_
  rintro ⟨i, acc⟩ ⟨hi, hacc⟩
  simp only at hi hacc
  have fN := hq.no
  unfold rowN at fN
  obtain ⟨a1, a2, a3, a4, a5, a6, a7⟩ := hqw.ids
  by_cases hlt : i < w.length
  · have hix := fun H => index_sl (P := Try.prog) (H := H) hqw slZ24 (k := .i64) (j := i) (by omega) (by rw [Int.toNat_natCast]; exact getN hlt) rfl
    have hlt' : decide ((i : Int) < w.length) = true := decide_eq_true (by omega)
    have hw : IntKind.i64.wrap ((i : Int) + 1) = ((i + 1 : Nat) : Int) := wrap64 (by omega) (by omega)
    have hk := hw1 _ (List.getElem_mem hlt)
    have hdr : (w.drop i).map (fun k => swNm n k) = swNm n w[i] :: (w.drop (i + 1)).map (fun k => swNm n k) := by rw [List.drop_eq_getElem_cons hlt, List.map_cons]
    rw [hdr]
    generalize w[i] = j at hix hk
    have his := fun H => index_sl (P := Try.prog) (H := H) hq.h1 slZ42 (k := .i64) (j := j) (by omega) (encSw_get hk) rfl
    rw [swNm_get hk]
    generalize n.sw[j] = x at his
    simp only [encSw] at his
    generalize x.name = s at his
    cases acc with
    | nil =>
      have f1 : flatM (.row [[.str s]] 1 true) = true := flatG encS_no [s] 1 true
      simp (decide := true) (implicitDefEqProofs := false) only [Am.findLoop, Am.loopOf, Am.bodyOf, Am.firstReg, Nat.beq, cond_true, cond_false, Am.splice, Am.walkW, Am.stdW, id, reduceCtorEq, Nat.reduceAdd, Nat.reduceSub, Nat.reduceMul, List.forall_mem_cons, List.forall_mem_nil, false_implies, implies_true, Try.f49, factsOf49, canonNd, rowN, accG, accGH, encS, hix, his, hlt', hw, fN, f1, appS_nil, List.replicate_succ, List.replicate_zero, buildSliceM, fillRow, appendF, appendH, src_lst, src_ref, elemsO_row, headOk_one, Nat.le_refl, keep49_3, a1, a2, a3, a4, a5, a6, a7, Am.compactK, Am.idsT, Am.closeStep, Am.keepW, Am.kstdW]
      exact ⟨(i + 1, [s]), rfl, ⟨hlt, by simp⟩, by simp only; omega, fun r hr => hr⟩
    | cons y acc =>
      have f1 := flatG encS_no (y :: acc) 1 true
      have f2 := flatG encS_no (y :: acc ++ [s]) 1 true
      have hap : ∀ H : List Mem, H[1]? = some (.row ((y :: acc).map encS) 1 true) → appendS H 1 16 (.ref 1 0 (acc.length + 1) (acc.length + 1)) [[.str s]] = some (.ref H.length 0 (acc.length + 1 + 1) (acc.length + 1 + 1), H.set 1 .dead ++ [.row ((y :: acc ++ [s]).map encS) 1 true]) := by
        intro H hH
        rw [List.map_append]
        exact appS_full hH (by simp) (by simp only [List.length_cons] at hacc; omega) _
      simp only [List.map_cons, List.cons_append] at f1 f2 hap
      have hnx : ∀ r, postNd (y :: acc ++ [s] ++ (w.drop (i + 1)).map fun k => swNm n k) r → postNd (y :: (acc ++ s :: (w.drop (i + 1)).map fun k => swNm n k)) r := fun r hr => by simpa using hr
      simp (decide := true) (implicitDefEqProofs := false) only [Am.findLoop, Am.loopOf, Am.bodyOf, Am.firstReg, Nat.beq, cond_true, cond_false, Am.splice, Am.walkW, Am.stdW, id, reduceCtorEq, Nat.reduceAdd, Nat.reduceSub, Nat.reduceMul, List.forall_mem_cons, List.forall_mem_nil, false_implies, implies_true, Try.f49, factsOf49, canonNd, rowN, accG, accGH, hix, his, hlt', hw, fN, f1, f2, hap, List.replicate_succ, List.replicate_zero, buildSliceM, fillRow, appendF, appendH, src_lst, src_ref, elemsO_row, headOk_one, Nat.le_refl, keep49_3, a1, a2, a3, a4, a5, a6, a7, Am.compactK, Am.idsT, Am.closeStep, Am.keepW, Am.kstdW]
      exact ⟨(i + 1, y :: acc ++ [s]), by simp only [accG, accGH, List.cons_append, List.nil_append, List.length_append, List.length_cons, List.length_nil, List.map_cons], ⟨hlt, by simp only [List.length_cons, List.length_append, List.length_nil] at hacc ⊢; omega⟩, by simp only; omega, hnx⟩
  · have hlt' : decide ((i : Int) < w.length) = false := decide_eq_false (by omega)
    rw [List.drop_eq_nil_of_le (by omega), List.map_nil, List.append_nil]
    cases acc with
    | nil =>
      simp (decide := true) (implicitDefEqProofs := false) only [Am.findLoop, Am.loopOf, Am.bodyOf, Am.firstReg, Nat.beq, cond_true, cond_false, Am.splice, Am.walkW, Am.stdW, id, reduceCtorEq, Nat.reduceAdd, Nat.reduceSub, Nat.reduceMul, List.forall_mem_cons, List.forall_mem_nil, false_implies, implies_true, Try.f49, factsOf49, canonNd, rowN, accG, accGH, hlt', a7]
      refine ⟨rfl, ?_⟩
      simp (decide := true) (implicitDefEqProofs := false) only [Am.findLoop, Am.loopOf, Am.bodyOf, Am.firstReg, Nat.beq, cond_true, cond_false, Am.splice, Am.walkW, Am.stdW, id, reduceCtorEq, Nat.reduceAdd, Nat.reduceSub, Nat.reduceMul, List.forall_mem_cons, List.forall_mem_nil, false_implies, implies_true, Try.f49, factsOf49, accG, accGH, fN, a1, a2, a3, a7, Am.compactK, Am.idsT, Am.closeStep, Am.keepW, Am.kstdW]
    | cons y acc =>
      have f1 := flatG encS_no (y :: acc) 1 true
      simp only [List.map_cons] at f1
      simp (decide := true) (implicitDefEqProofs := false) only [Am.findLoop, Am.loopOf, Am.bodyOf, Am.firstReg, Nat.beq, cond_true, cond_false, Am.splice, Am.walkW, Am.stdW, id, reduceCtorEq, Nat.reduceAdd, Nat.reduceSub, Nat.reduceMul, List.forall_mem_cons, List.forall_mem_nil, false_implies, implies_true, Try.f49, factsOf49, canonNd, rowN, accG, accGH, hlt', a7]
      refine ⟨rfl, ?_⟩
      simp (decide := true) (implicitDefEqProofs := false) only [Am.findLoop, Am.loopOf, Am.bodyOf, Am.firstReg, Nat.beq, cond_true, cond_false, Am.splice, Am.walkW, Am.stdW, id, reduceCtorEq, Nat.reduceAdd, Nat.reduceSub, Nat.reduceMul, List.forall_mem_cons, List.forall_mem_nil, false_implies, implies_true, Try.f49, factsOf49, accG, accGH, fN, f1, a1, a2, a3, a7, Am.compactK, Am.idsT, Am.closeStep, Am.keepW, Am.kstdW]
set_option maxHeartbeats 8000000 in
theorem named_call (n : Net) (q0 q1 q2 q3 q4 q5 : PV) (hq : NetQ n q0 q1 q2 q3 q4 q5) (qw : PV) (w : List Nat) (hqw : Sl qw (w.map encN)) (hw0 : w.length ≤ 1000) (hw1 : ∀ k ∈ w, k < n.sw.length) (hl : n.sw.length ≤ 32) : pureCall hints L1 49 [.agg [q0, q1, q2, q3, q4, q5], qw] = some (outG encS (w.map fun k => swNm n k)) := by
  refine pure_of prim49 (Holds.mono (Q := fun r => r = (accG 0 (w.map fun k => swNm n k), accGH encS 1 (w.map fun k => swNm n k))) ?_ fun r hr => by
    rw [hr]
    exact exp_accG encS_plainK _ 38 0 rfl rfl)
  have hlen := fun H => len_sl (P := Try.prog) (H := H) hqw slZ24
  simp only [List.length_map] at hlen
  have fN := hq.no
  unfold rowN at fN
  obtain ⟨a1, a2, a3, a4, a5, a6, a7⟩ := hqw.ids
  refine rn_rule (fn := Try.f49) (code := bodyOf Try.f49) ok49 Try.func49 (by kernel_rfl) (Nat.le_of_ble_eq_true (by kernel_rfl)) ?_
  simp (decide := true) (implicitDefEqProofs := false) only [Am.findLoop, Am.loopOf, Am.bodyOf, Am.firstReg, Nat.beq, cond_true, cond_false, Am.splice, Am.walkW, Am.stdW, id, reduceCtorEq, Nat.reduceAdd, Nat.reduceSub, Nat.reduceMul, List.forall_mem_cons, List.forall_mem_nil, false_implies, implies_true, Try.f49, factsOf49, hlen]
  simp only [holds_bind]
  refine (named_loop n q0 q1 q2 q3 q4 q5 hq qw w hqw hw0 hw1 hl (0, []) _ ⟨by omega, by simp⟩ ?_).mono ?_
  · show maskK (hints.keep 49 3) _ _ = _
    simp (decide := true) (implicitDefEqProofs := false) only [Am.findLoop, Am.loopOf, Am.bodyOf, Am.firstReg, Nat.beq, cond_true, cond_false, Am.splice, Am.walkW, Am.stdW, id, reduceCtorEq, Nat.reduceAdd, Nat.reduceSub, Nat.reduceMul, List.forall_mem_cons, List.forall_mem_nil, false_implies, implies_true, Try.f49, factsOf49, keep49_3, canonNd, rowN, accG, accGH, fN, a1, a2, a3, a4, a5, a6, a7, Am.compactK, Am.idsT, Am.closeStep, Am.keepW, Am.kstdW]
    rfl
  · rintro ⟨e, s'⟩ ⟨h5, h6⟩
    cases h5
    rw [keepB49_0] at h6
    simp only [List.drop_zero, List.nil_append] at h6
    simp (decide := true) (implicitDefEqProofs := false) only [Am.findLoop, Am.loopOf, Am.bodyOf, Am.firstReg, Nat.beq, cond_true, cond_false, Am.splice, Am.walkW, Am.stdW, id, reduceCtorEq, Nat.reduceAdd, Nat.reduceSub, Nat.reduceMul, List.forall_mem_cons, List.forall_mem_nil, false_implies, implies_true, Try.f49, factsOf49, h6]
end Go.Proofs.Ytcclbkkgpcpikaa

import Derived.Test.YtcclbkkgpcpikaaJ1
set_option linter.unusedSimpArgs false
set_option linter.unusedVariables false
namespace Go.Proofs.Ytcclbkkgpcpikaa
open Go.Am
set_option maxRecDepth 100000
/-- The edges of the switches that are open or not, with their places. -/
def edgL (n : Net) (op : Bool) : Nat → List Sw → List ((Nat × Nat) × Nat)
  | _, [] => []
  | i, x :: r => if x.opn = op then (swE n x, i) :: edgL n op (i + 1) r else edgL n op (i + 1) r
def encP1 (x : (Nat × Nat) × Nat) : List PV := enc2N x.1
def encP2 (x : (Nat × Nat) × Nat) : List PV := encN x.2
theorem encP1_no (x : (Nat × Nat) × Nat) : ∀ v ∈ encP1 x, noIds v = true := enc2N_no x.1
theorem encP2_no (x : (Nat × Nat) × Nat) : ∀ v ∈ encP2 x, noIds v = true := by
  intro v hv
  simp only [encP2, encN, List.mem_cons, List.not_mem_nil, or_false] at hv
  subst hv; rfl
noncomputable def canonEd (q0 q1 q2 q3 q4 q5 : PV) (op : Bool) (len i : Nat) (acc : List ((Nat × Nat) × Nat)) : St :=
  ⟨[(1, .bool op), (2, .ptr 0 0 0), (6, accG 1 acc), (7, accG 2 acc), (11, q1), (12, .int .i64 len), (13, .int .i64 i)], rowN q0 q1 q2 q3 q4 q5 :: (accGH encP1 2 acc ++ accGH encP2 1 acc)⟩
def postEd (full : List ((Nat × Nat) × Nat)) (r : Ex × St) : Prop := r.1 = .exit 0 ∧ maskK (hints.keepB 84 0) ⟨84, 0, 43⟩ r.2 = some ⟨[(6, accG 0 full), (7, accG 1 full)], accGH encP1 2 full ++ accGH encP2 1 full⟩
set_option maxHeartbeats 8000000 in
theorem edges_loop (n : Net) (q0 q1 q2 q3 q4 q5 : PV) (hq : NetQ n q0 q1 q2 q3 q4 q5) (hv : VNet n) (op : Bool) : ∀ (a : Nat × List ((Nat × Nat) × Nat)) (t : St), (a.1 ≤ n.sw.length ∧ a.2.length ≤ a.1) →
    maskK (hints.keep 84 (firstReg (loopOf Try.f84 4))) ⟨84, 0, 43⟩ t = some (canonEd q0 q1 q2 q3 q4 q5 op n.sw.length a.1 a.2) →
    Holds (L1.ex ⟨84, 0, 43⟩ (.loop (loopOf Try.f84 4)) t) (postEd (a.2 ++ edgL n op a.1 (n.sw.drop a.1))) := by
  refine loop_rule (σ := Nat × List ((Nat × Nat) × Nat)) (c := ⟨84, 0, 43⟩) (b := loopOf Try.f84 4) (fun a => canonEd q0 q1 q2 q3 q4 q5 op n.sw.length a.1 a.2) (fun a => a.1 ≤ n.sw.length ∧ a.2.length ≤ a.1) (fun a => n.sw.length - a.1) _ ?_
  rintro ⟨i, acc⟩ ⟨hi, hacc⟩
  simp only at hi hacc
  have hls := hv.ls
  have fN := hq.no
  unfold rowN at fN
  obtain ⟨b1, b2, b3, b4, b5, b6, b7⟩ := hq.h1.ids
  have n0e := fun H => hq.h0.plain.exp (H := H)
  have n0r := fun H => hq.h0.rch (H := H)
  by_cases hlt : i < n.sw.length
  · have hix := fun H => index_sl (P := Try.prog) (H := H) hq.h1 slZ42 (k := .i64) (j := i) (by omega) (encSw_get hlt) rfl
    have hlt' : decide ((i : Int) < n.sw.length) = true := decide_eq_true (by omega)
    have hw : IntKind.i64.wrap ((i : Int) + 1) = ((i + 1 : Nat) : Int) := wrap64 (by omega) (by omega)
    have hmem := hv.sw _ (List.getElem_mem hlt)
    have hdr : edgL n op i (n.sw.drop i) = if n.sw[i].opn = op then (swE n n.sw[i], i) :: edgL n op (i + 1) (n.sw.drop (i + 1)) else edgL n op (i + 1) (n.sw.drop (i + 1)) := by rw [List.drop_eq_getElem_cons hlt, edgL]
    rw [hdr]
    generalize n.sw[i] = x at hix hmem
    simp only [encSw] at hix
    have hln : n.nodes.length ≤ maxLen := by have := hv.ln; unfold maxLen; omega
    have pa := index_call q0 n.nodes hq.h0 x.a hln
    have pb := index_call q0 n.nodes hq.h0 x.b hln
    rw [(plN_ok hmem.1).1] at pa
    rw [(plN_ok hmem.2).1] at pb
    have hsx : swE n x = (plN n x.a, plN n x.b) := rfl
    rw [hsx]
    generalize plN n x.a = u at pa
    generalize plN n x.b = v at pb
    have bA := fun ps => build_array (P := Try.prog) arrOf29 ps
    by_cases c : x.opn = op
    · have c' : (x.opn == op) = true := by rw [c]; simp
      rw [if_pos c]
      cases acc with
      | nil =>
        have f1 : flatM (.row [[.int .i64 (u : Nat), .int .i64 (v : Nat)]] 2 true) = true := flatG enc2N_no [(u, v)] 2 true
        have f2 : flatM (.row [[.int .i64 (i : Nat)]] 1 true) = true := flatN [i] 1 true
        simp (decide := true) (implicitDefEqProofs := false) only [Am.findLoop, Am.loopOf, Am.bodyOf, Am.firstReg, Nat.beq, cond_true, cond_false, Am.splice, Am.walkW, Am.stdW, id, reduceCtorEq, Nat.reduceAdd, Nat.reduceSub, Nat.reduceMul, List.forall_mem_cons, List.forall_mem_nil, false_implies, implies_true, Try.f84, factsOf84, canonEd, rowN, accG, accGH, hix, hlt', hw, pa, pb, n0e, n0r, bA, fillAgg, c', fN, f1, f2, appS_nil, List.replicate_succ, List.replicate_zero, buildSliceM, fillRow, appendF, appendH, src_lst, src_ref, elemsO_row, headOk_one, Nat.le_refl, keep84_4, b1, b2, b3, b4, b5, b6, b7, Am.compactK, Am.idsT, Am.closeStep, Am.keepW, Am.kstdW]
        exact ⟨(i + 1, [((u, v), i)]), rfl, ⟨hlt, by simp⟩, by simp only; omega, fun r hr => hr⟩
      | cons y acc =>
        have f1 := flatG encP1_no (y :: acc) 2 true
        have f2 := flatG encP1_no (y :: acc ++ [((u, v), i)]) 2 true
        have g1 := flatG encP2_no (y :: acc) 1 true
        have g2 := flatG encP2_no (y :: acc ++ [((u, v), i)]) 1 true
        have hap : ∀ H : List Mem, H[1]? = some (.row ((y :: acc).map encP1) 2 true) → appendS H 2 16 (.ref 1 0 (acc.length + 1) (acc.length + 1)) [[.int .i64 (u : Nat), .int .i64 (v : Nat)]] = some (.ref H.length 0 (acc.length + 1 + 1) (acc.length + 1 + 1), H.set 1 .dead ++ [.row ((y :: acc ++ [((u, v), i)]).map encP1) 2 true]) := by
          intro H hH
          rw [List.map_append]
          exact appS_full hH (by simp) (by simp only [List.length_cons] at hacc; omega) _
        have hap2 : ∀ H : List Mem, H[2]? = some (.row ((y :: acc).map encP2) 1 true) → appendS H 1 8 (.ref 2 0 (acc.length + 1) (acc.length + 1)) [[.int .i64 (i : Nat)]] = some (.ref H.length 0 (acc.length + 1 + 1) (acc.length + 1 + 1), H.set 2 .dead ++ [.row ((y :: acc ++ [((u, v), i)]).map encP2) 1 true]) := by
          intro H hH
          rw [List.map_append]
          exact appS_full hH (by simp) (by simp only [List.length_cons] at hacc; omega) _
        simp only [List.map_cons, List.cons_append] at f1 f2 g1 g2 hap hap2
        have hnx : ∀ r, postEd (y :: acc ++ [((u, v), i)] ++ edgL n op (i + 1) (n.sw.drop (i + 1))) r → postEd (y :: (acc ++ ((u, v), i) :: edgL n op (i + 1) (n.sw.drop (i + 1)))) r := fun r hr => by simpa using hr
        simp (decide := true) (implicitDefEqProofs := false) only [Am.findLoop, Am.loopOf, Am.bodyOf, Am.firstReg, Nat.beq, cond_true, cond_false, Am.splice, Am.walkW, Am.stdW, id, reduceCtorEq, Nat.reduceAdd, Nat.reduceSub, Nat.reduceMul, List.forall_mem_cons, List.forall_mem_nil, false_implies, implies_true, Try.f84, factsOf84, canonEd, rowN, accG, accGH, hix, hlt', hw, pa, pb, n0e, n0r, bA, fillAgg, c', fN, f1, f2, g1, g2, hap, hap2, List.replicate_succ, List.replicate_zero, buildSliceM, fillRow, appendF, appendH, src_lst, src_ref, elemsO_row, headOk_one, Nat.le_refl, keep84_4, b1, b2, b3, b4, b5, b6, b7, Am.compactK, Am.idsT, Am.closeStep, Am.keepW, Am.kstdW]
        exact ⟨(i + 1, y :: acc ++ [((u, v), i)]), by simp only [accG, accGH, List.cons_append, List.nil_append, List.length_append, List.length_cons, List.length_nil, List.map_cons], ⟨hlt, by simp only [List.length_cons, List.length_append, List.length_nil] at hacc ⊢; omega⟩, by simp only; omega, hnx⟩
    · have c' : (x.opn == op) = false := by simpa using c
      rw [if_neg c]
      cases acc with
      | nil =>
        simp (decide := true) (implicitDefEqProofs := false) only [Am.findLoop, Am.loopOf, Am.bodyOf, Am.firstReg, Nat.beq, cond_true, cond_false, Am.splice, Am.walkW, Am.stdW, id, reduceCtorEq, Nat.reduceAdd, Nat.reduceSub, Nat.reduceMul, List.forall_mem_cons, List.forall_mem_nil, false_implies, implies_true, Try.f84, factsOf84, canonEd, rowN, accG, accGH, hix, hlt', hw, c', fN, keep84_4, b1, b2, b3, b4, b5, b6, b7, Am.compactK, Am.idsT, Am.closeStep, Am.keepW, Am.kstdW]
        exact ⟨(i + 1, []), rfl, ⟨hlt, by simp⟩, by simp only; omega, fun r hr => hr⟩
      | cons y acc =>
        have f1 := flatG encP1_no (y :: acc) 2 true
        have g1 := flatG encP2_no (y :: acc) 1 true
        simp only [List.map_cons] at f1 g1
        simp (decide := true) (implicitDefEqProofs := false) only [Am.findLoop, Am.loopOf, Am.bodyOf, Am.firstReg, Nat.beq, cond_true, cond_false, Am.splice, Am.walkW, Am.stdW, id, reduceCtorEq, Nat.reduceAdd, Nat.reduceSub, Nat.reduceMul, List.forall_mem_cons, List.forall_mem_nil, false_implies, implies_true, Try.f84, factsOf84, canonEd, rowN, accG, accGH, hix, hlt', hw, c', fN, f1, g1, keep84_4, b1, b2, b3, b4, b5, b6, b7, Am.compactK, Am.idsT, Am.closeStep, Am.keepW, Am.kstdW]
        exact ⟨(i + 1, y :: acc), rfl, ⟨hlt, by simp only [List.length_cons] at hacc ⊢; omega⟩, by simp only; omega, fun r hr => hr⟩
  · have hlt' : decide ((i : Int) < n.sw.length) = false := decide_eq_false (by omega)
    rw [List.drop_eq_nil_of_le (by omega), edgL, List.append_nil]
    cases acc with
    | nil =>
      simp (decide := true) (implicitDefEqProofs := false) only [Am.findLoop, Am.loopOf, Am.bodyOf, Am.firstReg, Nat.beq, cond_true, cond_false, Am.splice, Am.walkW, Am.stdW, id, reduceCtorEq, Nat.reduceAdd, Nat.reduceSub, Nat.reduceMul, List.forall_mem_cons, List.forall_mem_nil, false_implies, implies_true, Try.f84, factsOf84, canonEd, rowN, accG, accGH, hlt', b7]
      refine ⟨rfl, ?_⟩
      simp (decide := true) (implicitDefEqProofs := false) only [Am.findLoop, Am.loopOf, Am.bodyOf, Am.firstReg, Nat.beq, cond_true, cond_false, Am.splice, Am.walkW, Am.stdW, id, reduceCtorEq, Nat.reduceAdd, Nat.reduceSub, Nat.reduceMul, List.forall_mem_cons, List.forall_mem_nil, false_implies, implies_true, Try.f84, factsOf84, accG, accGH, fN, b1, b2, b3, b7, Am.compactK, Am.idsT, Am.closeStep, Am.keepW, Am.kstdW]
    | cons y acc =>
      have f1 := flatG encP1_no (y :: acc) 2 true
      have g1 := flatG encP2_no (y :: acc) 1 true
      simp only [List.map_cons] at f1 g1
      simp (decide := true) (implicitDefEqProofs := false) only [Am.findLoop, Am.loopOf, Am.bodyOf, Am.firstReg, Nat.beq, cond_true, cond_false, Am.splice, Am.walkW, Am.stdW, id, reduceCtorEq, Nat.reduceAdd, Nat.reduceSub, Nat.reduceMul, List.forall_mem_cons, List.forall_mem_nil, false_implies, implies_true, Try.f84, factsOf84, canonEd, rowN, accG, accGH, hlt', b7]
      refine ⟨rfl, ?_⟩
      simp (decide := true) (implicitDefEqProofs := false) only [Am.findLoop, Am.loopOf, Am.bodyOf, Am.firstReg, Nat.beq, cond_true, cond_false, Am.splice, Am.walkW, Am.stdW, id, reduceCtorEq, Nat.reduceAdd, Nat.reduceSub, Nat.reduceMul, List.forall_mem_cons, List.forall_mem_nil, false_implies, implies_true, Try.f84, factsOf84, accG, accGH, fN, f1, g1, b1, b2, b3, b7, Am.compactK, Am.idsT, Am.closeStep, Am.keepW, Am.kstdW]
def edgA (n : Net) (op : Bool) : List ((Nat × Nat) × Nat) := edgL n op 0 n.sw
set_option maxHeartbeats 8000000 in
theorem edges_run (n : Net) (q0 q1 q2 q3 q4 q5 : PV) (hq : NetQ n q0 q1 q2 q3 q4 q5) (hv : VNet n) (op : Bool) : Holds (L1.rn 84 [.agg [q0, q1, q2, q3, q4, q5], .bool op] []) (fun r => r = (.tup [accG 0 (edgA n op), accG 1 (edgA n op)], accGH encP1 2 (edgA n op) ++ accGH encP2 1 (edgA n op))) := by
  have hl1 := fun H => (lens hq H).2.1
  have fN := hq.no
  unfold rowN at fN
  obtain ⟨b1, b2, b3, b4, b5, b6, b7⟩ := hq.h1.ids
  refine rn_rule (fn := Try.f84) (code := bodyOf Try.f84) ok84 Try.func84 (by kernel_rfl) (Nat.le_of_ble_eq_true (by kernel_rfl)) ?_
  simp (decide := true) (implicitDefEqProofs := false) only [Am.findLoop, Am.loopOf, Am.bodyOf, Am.firstReg, Nat.beq, cond_true, cond_false, Am.splice, Am.walkW, Am.stdW, id, reduceCtorEq, Nat.reduceAdd, Nat.reduceSub, Nat.reduceMul, List.forall_mem_cons, List.forall_mem_nil, false_implies, implies_true, Try.f84, factsOf84, hl1]
  simp only [holds_bind]
  refine (edges_loop n q0 q1 q2 q3 q4 q5 hq hv op (0, []) _ ⟨by omega, by simp⟩ ?_).mono ?_
  · show maskK (hints.keep 84 4) _ _ = _
    simp (decide := true) (implicitDefEqProofs := false) only [Am.findLoop, Am.loopOf, Am.bodyOf, Am.firstReg, Nat.beq, cond_true, cond_false, Am.splice, Am.walkW, Am.stdW, id, reduceCtorEq, Nat.reduceAdd, Nat.reduceSub, Nat.reduceMul, List.forall_mem_cons, List.forall_mem_nil, false_implies, implies_true, Try.f84, factsOf84, keep84_4, canonEd, rowN, accG, accGH, fN, b1, b2, b3, b4, b5, b6, b7, Am.compactK, Am.idsT, Am.closeStep, Am.keepW, Am.kstdW]
    rfl
  · rintro ⟨e, s'⟩ ⟨h5, h6⟩
    cases h5
    rw [keepB84_0] at h6
    simp only [List.drop_zero, List.nil_append] at h6
    simp (decide := true) (implicitDefEqProofs := false) only [Am.findLoop, Am.loopOf, Am.bodyOf, Am.firstReg, Nat.beq, cond_true, cond_false, Am.splice, Am.walkW, Am.stdW, id, reduceCtorEq, Nat.reduceAdd, Nat.reduceSub, Nat.reduceMul, List.forall_mem_cons, List.forall_mem_nil, false_implies, implies_true, Try.f84, factsOf84, h6]
    rfl
/-- A call whose two results are own memory of the caller. -/
theorem imp_two {E : Ev} {f : FuncId} {qs : List PV} {a b : PV} {H : List Mem} {u v : PV} {hp : List Mem} (hr : E.rn f qs [] = some (.tup [a, b], H)) (hc : compact [(0, a), (1, b)] H = some ⟨[(0, u), (1, v)], hp⟩) (hu : okIds u = true) (hv : okIds v = true) (hh : hp.all okMs = true) (base : Nat) :
    impCall E f qs base = some (.tup [sh base u, sh base v], hp.map (shM base), (selfP u && selfP v) && hp.all selfM) := by
  simp only [impCall, hr, Option.bind_some, parts1, enterT, Nat.zero_add, hc, List.all_cons, List.all_nil, hu, hv, hh, Bool.and_true, Bool.and_self, if_true, List.map_cons, List.map_nil, rejoin]
theorem edges_imp (n : Net) (q0 q1 q2 q3 q4 q5 : PV) (hq : NetQ n q0 q1 q2 q3 q4 q5) (hv : VNet n) (op : Bool) (base : Nat) : impCall L1 84 [.agg [q0, q1, q2, q3, q4, q5], .bool op] base = some (.tup [accG base (edgA n op), accG (base + 1) (edgA n op)], accGH encP1 2 (edgA n op) ++ accGH encP2 1 (edgA n op), true) := by
  obtain ⟨r, hr, rfl⟩ := edges_run n q0 q1 q2 q3 q4 q5 hq hv op
  generalize edgA n op = l at hr
  cases l with
  | nil =>
    rw [imp_two (u := .nils) (v := .nils) (hp := []) hr rfl rfl rfl rfl base]
    rfl
  | cons y acc =>
    have f1 := flatG encP1_no (y :: acc) 2 true
    have g1 := flatG encP2_no (y :: acc) 1 true
    have k1 : ∀ x : (Nat × Nat) × Nat, ∀ v ∈ encP1 x, ∃ k : Nat, v = .int .i64 k := by
      intro x v hv
      simp only [encP1, enc2N, List.mem_cons, List.not_mem_nil, or_false] at hv
      rcases hv with rfl | rfl
      · exact ⟨_, rfl⟩
      · exact ⟨_, rfl⟩
    have k2 : ∀ x : (Nat × Nat) × Nat, ∀ v ∈ encP2 x, ∃ k : Nat, v = .int .i64 k := by
      intro x v hv
      simp only [encP2, encN, List.mem_cons, List.not_mem_nil, or_false] at hv
      exact ⟨_, hv⟩
    have shE : ∀ (enc : (Nat × Nat) × Nat → List PV) (_ : ∀ x, ∀ v ∈ enc x, ∃ k : Nat, v = .int .i64 k) (l : List ((Nat × Nat) × Nat)) (z : Nat), shM base (.row (l.map enc) z true) = .row (l.map enc) z true ∧ okMs (.row (l.map enc) z true) = true ∧ selfM (.row (l.map enc) z true) = true := by
      intro enc he l z
      refine ⟨?_, ?_, ?_⟩
      · simp only [shM]
        congr 1
        conv => rhs; rw [← List.map_id (l.map enc)]
        refine List.map_congr_left fun c hc => ?_
        obtain ⟨x, _, rfl⟩ := List.mem_map.1 hc
        conv => rhs; rw [id, ← List.map_id (enc x)]
        refine List.map_congr_left fun v hv => ?_
        obtain ⟨k, rfl⟩ := he x v hv
        rfl
      · simp only [okMs, List.all_eq_true]
        intro c hc v hv
        obtain ⟨x, _, rfl⟩ := List.mem_map.1 hc
        obtain ⟨k, rfl⟩ := he x v hv
        rfl
      · simp only [selfM, List.all_eq_true]
        intro c hc v hv
        obtain ⟨x, _, rfl⟩ := List.mem_map.1 hc
        obtain ⟨k, rfl⟩ := he x v hv
        rfl
    obtain ⟨s1, s2, s3⟩ := shE encP1 k1 (y :: acc) 2
    obtain ⟨t1, t2, t3⟩ := shE encP2 k2 (y :: acc) 1
    rw [imp_two (u := .ref 0 0 (acc.length + 1) (acc.length + 1)) (v := .ref 1 0 (acc.length + 1) (acc.length + 1)) (hp := [.row ((y :: acc).map encP1) 2 true, .row ((y :: acc).map encP2) 1 true]) hr ?_ rfl rfl ?_ base]
    · simp only [List.map_cons, List.map_nil, List.all_cons, List.all_nil] at s1 s3 t1 t3 ⊢
      simp only [s1, t1, s3, t3, accG, accGH, sh, sh1, selfP, self1, List.map_cons, List.cons_append, List.nil_append, Bool.and_true, Bool.and_self, Nat.add_zero]
    · simp only [List.map_cons] at f1 g1
      simp (decide := true) only [accG, accGH, List.map_cons, f1, g1, Am.compactK, Am.idsT, Am.closeStep, Am.keepW, Am.kstdW, Am.splice, Am.walkW, Am.stdW, id, reduceCtorEq, Nat.reduceAdd, Nat.reduceSub, Nat.reduceMul, List.forall_mem_cons, List.forall_mem_nil, false_implies, implies_true]
    · simp only [List.all_cons, List.all_nil, s2, t2, Bool.and_self]
end Go.Proofs.Ytcclbkkgpcpikaa

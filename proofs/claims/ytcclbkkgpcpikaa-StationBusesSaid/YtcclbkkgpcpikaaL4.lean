/-
  station.Busbars' answer; the law's loops over buses and nodes.
-/
import Derived.Test.YtcclbkkgpcpikaaL3
set_option linter.unusedSimpArgs false
set_option linter.unusedVariables false
namespace Go.Proofs.Ytcclbkkgpcpikaa
open Go.Am
set_option maxRecDepth 100000
def encL (g : List ByteArray) : List PV := [.lst (g.map encS)]
theorem range_getD {α β : Type} (G : List α) (d : α) (k : α → β) : (List.range G.length).map (fun i => k (G.getD i d)) = G.map k := by
  apply List.ext_getElem?
  intro i
  by_cases h : i < G.length
  · rw [List.getElem?_map, List.getElem?_range h, List.getElem?_map, List.getElem?_eq_getElem h, Option.map_some, Option.map_some, List.getD_eq_getElem?_getD, List.getElem?_eq_getElem h, Option.getD_some]
  · rw [List.getElem?_eq_none (by simpa using h), List.getElem?_eq_none (by simpa using h)]
theorem exp_bb {G : List (List ByteArray)} : exp 39 (.row (outerRow G.length (· + 1) (lenG G)) 1 true :: rowsG G) (.ref 0 0 G.length G.length) = some (.lst (G.map encL)) := by
  generalize hH : Mem.row (outerRow G.length (· + 1) (lenG G)) 1 true :: rowsG G = H
  have h0 : H[0]? = some (.row (outerRow G.length (· + 1) (lenG G)) 1 true) := by rw [← hH]; rfl
  have hc : ∀ i, i < G.length → omap (exp 38 H) [PV.ref (i + 1) 0 (lenG G i) (lenG G i)] = some (encL (G.getD i [])) := by
    intro i hi
    have h1 : H[i + 1]? = some (.row ((G.getD i []).map encS) 1 true) := by rw [← hH, List.getElem?_cons_succ, rowsG_get hi]; rfl
    have h2 : exp 38 H (.ref (i + 1) 0 (lenG G i) (lenG G i)) = some (.lst ((G.getD i []).map encS)) := by
      show exp (37 + 1) H _ = _
      rw [exp_ref, h1, rowC_row, if_pos (by unfold lenG; simp), List.drop_zero, List.take_of_length_le (by unfold lenG; simp), plainss (n := 36)]
      · rfl
      · intro c hc v hv
        obtain ⟨x, _, rfl⟩ := List.mem_map.1 hc
        exact encS_plainK x v hv
    rw [omap_cons', h2, omap_nil']; rfl
  rw [exp39_ref, h0, rowC_row, if_pos (by rw [outerRow_len]; omega), List.drop_zero, List.take_of_length_le (by rw [outerRow_len]; omega)]
  rw [omap_all (g := fun c => (omap (exp 38 H) c).getD [])]
  · rw [Option.map_some, outerRow, List.map_map, ← range_getD G [] encL]
    congr 2
    refine List.map_congr_left fun i hi => ?_
    rw [Function.comp_apply, hc i (by simpa using hi)]; rfl
  · intro c hcm
    rw [outerRow] at hcm
    obtain ⟨i, hi, rfl⟩ := List.mem_map.1 hcm
    rw [hc i (by simpa using hi)]; rfl
theorem stE_nil (n : Net) : stE n [] = netE n := by
  unfold stE
  split
  · rfl
  · rename_i h
    rw [if_pos (show allM n [] = true from rfl)]
    exact (Classical.not_not.1 h).symm
noncomputable def busG (n : Net) : List (List ByteArray) := grpF (bfF n) (nmF n) n.nodes.length
noncomputable def sBbV (n : Net) : PV := if netE n = 0 then .tup [outG encL (busG n), .int .i64 0] else .tup [.nils, .int .i64 (netE n)]
set_option maxHeartbeats 16000000 in
theorem sbb_call (n : Net) (q0 q1 q2 q3 q4 q5 : PV) (hq : NetQ n q0 q1 q2 q3 q4 q5) : pureCall hints L1 38 [.agg [q0, q1, q2, q3, q4, q5]] = some (sBbV n) := by
  have hne := hq.exp
  have hnr := hq.rch
  have fN := hq.no
  unfold rowN at fN
  have hck := scheck_call n q0 q1 q2 q3 q4 q5 hq .nils [] (.inl ⟨rfl, rfl⟩) (by simp)
  rw [stE_nil] at hck
  by_cases h1 : netE n = 0
  · have hv := vnet h1
    rw [h1] at hck
    have hsb := sbuses_N n q0 q1 q2 q3 q4 q5 hq hv
    have hBl := (bus_num hv).1
    have hlb := fun H => len_sl (P := Try.prog) (H := H) (.inr rfl : Sl (.lst ((busF n).map encN)) _) slZ24
    simp only [List.length_map, hBl] at hlb
    have hV : sBbV n = .tup [outG encL (busG n), .int .i64 0] := by unfold sBbV; rw [if_pos h1]
    rw [hV]
    refine pure_of prim38 (Holds.mono (Q := fun r => exp expFuel r.2 r.1 = some (.tup [outG encL (busG n), .int .i64 0])) ?_ fun r hr => hr)
    refine rn_rule (fn := Try.f38) (code := bodyOf Try.f38) ok38 Try.func38 (by kernel_rfl) (Nat.le_of_ble_eq_true (by kernel_rfl)) ?_
    simp (decide := true) (implicitDefEqProofs := false) only [Am.findLoop, Am.loopOf, Am.bodyOf, Am.firstReg, Nat.beq, cond_true, cond_false, Am.splice, Am.walkW, Am.stdW, id, reduceCtorEq, Nat.reduceAdd, Nat.reduceSub, Nat.reduceMul, List.forall_mem_cons, List.forall_mem_nil, false_implies, implies_true, Try.f38, factsOf38, hne, hnr, hck, hsb, hlb]
    simp only [holds_bind]
    refine (busbars_loop n q0 q1 q2 q3 q4 q5 hq hv 0 _ (by omega) ?_).mono ?_
    · show maskK (hints.keep 38 6) _ _ = _
      rw [show canonBb q0 q1 q2 q3 q4 q5 ((busF n).map encN) n.nodes.length 0 (grpF (bfF n) (nmF n) 0) = ⟨[(1, .ptr 0 0 0), (5, .nils), (14, .lst ((busF n).map encN)), (15, .int .i64 n.nodes.length), (16, .int .i64 0)], [rowN q0 q1 q2 q3 q4 q5]⟩ from by rw [canonBb, if_neg (by simp [grpF])]; rfl]
      simp (decide := true) (implicitDefEqProofs := false) only [Am.findLoop, Am.loopOf, Am.bodyOf, Am.firstReg, Nat.beq, cond_true, cond_false, Am.splice, Am.walkW, Am.stdW, id, reduceCtorEq, Nat.reduceAdd, Nat.reduceSub, Nat.reduceMul, List.forall_mem_cons, List.forall_mem_nil, false_implies, implies_true, Try.f38, factsOf38, keep38_6, rowN, fN, Am.compactK, Am.idsT, Am.closeStep, Am.keepW, Am.kstdW]
    · rintro ⟨e, s'⟩ ⟨h5, h6⟩
      cases h5
      rw [keepB38_0] at h6
      have h6 : maskK (some ([5], true)) ⟨38, 0, 44⟩ s' = some (outBb (busG n)) := h6
      generalize busG n = G at *
      by_cases hm : 0 < G.length
      · rw [outBb, if_pos hm] at h6
        simp (decide := true) (implicitDefEqProofs := false) only [Am.findLoop, Am.loopOf, Am.bodyOf, Am.firstReg, Nat.beq, cond_true, cond_false, Am.splice, Am.walkW, Am.stdW, id, reduceCtorEq, Nat.reduceAdd, Nat.reduceSub, Nat.reduceMul, List.forall_mem_cons, List.forall_mem_nil, false_implies, implies_true, Try.f38, factsOf38, h6]
        simp only [exp_tup, omap_cons', omap_nil', exp39_int, exp_bb, Option.bind_some]
        cases G with
        | nil => simp at hm
        | cons g r => rfl
      · rw [outBb, if_neg hm] at h6
        have hG : G = [] := by cases G with
          | nil => rfl
          | cons g r => simp at hm
        subst hG
        simp (decide := true) (implicitDefEqProofs := false) only [Am.findLoop, Am.loopOf, Am.bodyOf, Am.firstReg, Nat.beq, cond_true, cond_false, Am.splice, Am.walkW, Am.stdW, id, reduceCtorEq, Nat.reduceAdd, Nat.reduceSub, Nat.reduceMul, List.forall_mem_cons, List.forall_mem_nil, false_implies, implies_true, Try.f38, factsOf38, h6]
        rfl
  · have hV : sBbV n = .tup [.nils, .int .i64 (netE n)] := by unfold sBbV; rw [if_neg h1]
    rw [hV]
    have h0' : decide (netE n = 0) = false := decide_eq_false h1
    refine pure_of prim38 (Holds.mono (Q := fun r => r.1 = .tup [.nils, .int .i64 (netE n)]) ?_ fun r hr => by rw [hr]; rfl)
    refine rn_rule (fn := Try.f38) (code := bodyOf Try.f38) ok38 Try.func38 (by kernel_rfl) (Nat.le_of_ble_eq_true (by kernel_rfl)) ?_
    simp (decide := true) (implicitDefEqProofs := false) only [Am.findLoop, Am.loopOf, Am.bodyOf, Am.firstReg, Nat.beq, cond_true, cond_false, Am.splice, Am.walkW, Am.stdW, id, reduceCtorEq, Nat.reduceAdd, Nat.reduceSub, Nat.reduceMul, List.forall_mem_cons, List.forall_mem_nil, false_implies, implies_true, Try.f38, factsOf38, hne, hnr, hck, h0']
/-! the law's loops -/
noncomputable def canonLi (q0 q1 q2 q3 q4 q5 v7 v10 v63 : PV) (s : ByteArray) (e8 : Int) (L : List (List PV)) (m k len i : Nat) (acc : List ByteArray) : St :=
  ⟨[(1, .str s), (2, .ptr 0 0 0), (7, v7), (8, .int .i64 e8), (10, v10), (11, .int .i64 k), (12, .lst L), (13, accG 1 acc), (63, v63), (64, .int .i64 m), (65, .int .i64 k), (71, q0), (72, .int .i64 len), (73, .int .i64 i)], rowN q0 q1 q2 q3 q4 q5 :: accGH encS 1 acc⟩
noncomputable def outLi (q0 q1 q2 q3 q4 q5 v7 v10 v63 : PV) (s : ByteArray) (e8 : Int) (L : List (List PV)) (m k : Nat) (acc : List ByteArray) : St :=
  ⟨[(1, .str s), (2, .ptr 0 0 0), (7, v7), (8, .int .i64 e8), (10, v10), (12, .lst L), (13, accG 1 acc), (63, v63), (64, .int .i64 m), (65, .int .i64 k)], rowN q0 q1 q2 q3 q4 q5 :: accGH encS 1 acc⟩
def postLi (q0 q1 q2 q3 q4 q5 v7 v10 v63 : PV) (s : ByteArray) (e8 : Int) (L : List (List PV)) (m k : Nat) (acc : List ByteArray) (r : Ex × St) : Prop := r.1 = .exit 2 ∧ maskK (hints.keepB 7 2) ⟨7, 0, 141⟩ r.2 = some (outLi q0 q1 q2 q3 q4 q5 v7 v10 v63 s e8 L m k acc)
theorem grpN_len {f : Nat → Nat} {nm : Nat → ByteArray} (v : Nat) : ∀ i, (grpN f nm i v).length ≤ i
  | 0 => Nat.le_refl 0
  | i + 1 => by
    have := grpN_len (f := f) (nm := nm) v i
    rw [grpN_succ, List.length_append]
    split <;> simp <;> omega
set_option maxHeartbeats 16000000 in
theorem law_names (n : Net) (q0 q1 q2 q3 q4 q5 : PV) (hq : NetQ n q0 q1 q2 q3 q4 q5) (hv : VNet n) (l7 : List ByteArray) (l63 : List (List ByteArray)) (s : ByteArray) (e8 : Int) (L : List (List PV)) (m k : Nat) : ∀ (i : Nat) (t : St), i ≤ n.nodes.length →
    maskK (hints.keep 7 (firstReg (loopOf Try.f7 16))) ⟨7, 0, 141⟩ t = some (canonLi q0 q1 q2 q3 q4 q5 (outG encS l7) (outN (busF n)) (outG encL l63) s e8 L m k n.nodes.length i (grpN (bfF n) (nmF n) i k)) →
    Holds (L1.ex ⟨7, 0, 141⟩ (.loop (loopOf Try.f7 16)) t) (postLi q0 q1 q2 q3 q4 q5 (outG encS l7) (outN (busF n)) (outG encL l63) s e8 L m k (grpN (bfF n) (nmF n) n.nodes.length k)) := by
  refine loop_rule (σ := Nat) (c := ⟨7, 0, 141⟩) (b := loopOf Try.f7 16) (fun i => canonLi q0 q1 q2 q3 q4 q5 (outG encS l7) (outN (busF n)) (outG encL l63) s e8 L m k n.nodes.length i (grpN (bfF n) (nmF n) i k)) (fun i => i ≤ n.nodes.length) (fun i => n.nodes.length - i) (fun _ => postLi q0 q1 q2 q3 q4 q5 (outG encS l7) (outN (busF n)) (outG encL l63) s e8 L m k (grpN (bfF n) (nmF n) n.nodes.length k)) ?_
  intro i hi
  have hln := hv.ln
  have fN := hq.no
  unfold rowN at fN
  obtain ⟨a1, a2, a3, a4, a5, a6, a7⟩ := hq.h0.ids
  obtain ⟨b1, b2, b3, b4, b5, b6, b7⟩ := (outG_sl encS l7).ids
  obtain ⟨c1, c2, c3, c4, c5, c6, c7⟩ := (outG_sl encL l63).ids
  obtain ⟨d1, d2, d3, d4, d5, d6, d7⟩ := (outN_sl' (busF n)).ids
  by_cases hlt : i < n.nodes.length
  · have hBl := (bus_num hv).1
    have hix := fun H => index_sl (P := Try.prog) (H := H) hq.h0 slZ41 (k := .i64) (j := i) (by omega) (encS_get hlt) rfl
    have ib := fun H => index_sl (P := Try.prog) (H := H) (outN_sl' (busF n)) slZ24 (k := .i64) (j := i) (by omega) (by rw [Int.toNat_natCast]; exact getN (by omega : i < (busF n).length)) rfl
    have hlt' : decide ((i : Int) < n.nodes.length) = true := decide_eq_true (by omega)
    have hw : IntKind.i64.wrap ((i : Int) + 1) = ((i + 1 : Nat) : Int) := wrap64 (by omega) (by omega)
    have hnx : grpN (bfF n) (nmF n) (i + 1) k = grpN (bfF n) (nmF n) i k ++ if (busF n)[i] = k then [n.nodes[i]] else [] := by
      rw [grpN_succ, show bfF n i = (busF n)[i] from getD_get (by omega), show nmF n i = n.nodes[i] by rw [nmF, List.getD_eq_getElem?_getD, List.getElem?_eq_getElem hlt]; rfl]
    have hacc := grpN_len (f := bfF n) (nm := nmF n) k i
    generalize grpN (bfF n) (nmF n) i k = acc at *
    generalize (busF n)[i]'(by omega) = b at ib hnx
    generalize n.nodes[i] = x at hix hnx
    by_cases hb : b = k
    · subst hb
      rw [if_pos rfl] at hnx
      have hd : decide ((b : Int) = (b : Int)) = true := decide_eq_true rfl
      cases acc with
      | nil =>
        have f1 : flatM (.row [[.str x]] 1 true) = true := flatG encS_no [x] 1 true
        simp (decide := true) (implicitDefEqProofs := false) only [Am.findLoop, Am.loopOf, Am.bodyOf, Am.firstReg, Nat.beq, cond_true, cond_false, Am.splice, Am.walkW, Am.stdW, id, reduceCtorEq, Nat.reduceAdd, Nat.reduceSub, Nat.reduceMul, List.forall_mem_cons, List.forall_mem_nil, false_implies, implies_true, Try.f7, factsOf7, canonLi, rowN, accG, accGH, encS, hix, ib, hlt', hw, hd, fN, f1, appS_nil, List.replicate_succ, List.replicate_zero, buildSliceM, fillRow, appendF, appendH, src_lst, src_ref, elemsO_row, headOk_one, Nat.le_refl, keep7_16, a1, a2, a3, a4, a5, a6, a7, b1, b2, b3, b4, b5, b6, b7, c1, c2, c3, c4, c5, c6, c7, d1, d2, d3, d4, d5, d6, d7, Am.compactK, Am.idsT, Am.closeStep, Am.keepW, Am.kstdW]
        exact ⟨i + 1, by rw [hnx]; rfl, hlt, by omega, fun r hr => hr⟩
      | cons y acc =>
        have f1 := flatG encS_no (y :: acc) 1 true
        have f2 := flatG encS_no (y :: acc ++ [x]) 1 true
        have hap : ∀ H : List Mem, H[1]? = some (.row ((y :: acc).map encS) 1 true) → appendS H 1 16 (.ref 1 0 (acc.length + 1) (acc.length + 1)) [[.str x]] = some (.ref H.length 0 (acc.length + 1 + 1) (acc.length + 1 + 1), H.set 1 .dead ++ [.row ((y :: acc ++ [x]).map encS) 1 true]) := by
          intro H hH
          rw [List.map_append]
          exact appS_full hH (by simp) (by simp only [List.length_cons] at hacc; omega) _
        simp only [List.map_cons, List.cons_append] at f1 f2 hap
        simp (decide := true) (implicitDefEqProofs := false) only [Am.findLoop, Am.loopOf, Am.bodyOf, Am.firstReg, Nat.beq, cond_true, cond_false, Am.splice, Am.walkW, Am.stdW, id, reduceCtorEq, Nat.reduceAdd, Nat.reduceSub, Nat.reduceMul, List.forall_mem_cons, List.forall_mem_nil, false_implies, implies_true, Try.f7, factsOf7, canonLi, rowN, accG, accGH, hix, ib, hlt', hw, hd, fN, f1, f2, hap, List.replicate_succ, List.replicate_zero, buildSliceM, fillRow, appendF, appendH, src_lst, src_ref, elemsO_row, headOk_one, Nat.le_refl, keep7_16, a1, a2, a3, a4, a5, a6, a7, b1, b2, b3, b4, b5, b6, b7, c1, c2, c3, c4, c5, c6, c7, d1, d2, d3, d4, d5, d6, d7, Am.compactK, Am.idsT, Am.closeStep, Am.keepW, Am.kstdW]
        exact ⟨i + 1, by rw [hnx]; simp only [accG, accGH, List.cons_append, List.nil_append, List.length_append, List.length_cons, List.length_nil, List.map_cons], hlt, by omega, fun r hr => hr⟩
    · rw [if_neg hb, List.append_nil] at hnx
      have hd : decide ((b : Int) = (k : Int)) = false := decide_eq_false (by omega)
      cases acc with
      | nil =>
        simp (decide := true) (implicitDefEqProofs := false) only [Am.findLoop, Am.loopOf, Am.bodyOf, Am.firstReg, Nat.beq, cond_true, cond_false, Am.splice, Am.walkW, Am.stdW, id, reduceCtorEq, Nat.reduceAdd, Nat.reduceSub, Nat.reduceMul, List.forall_mem_cons, List.forall_mem_nil, false_implies, implies_true, Try.f7, factsOf7, canonLi, rowN, accG, accGH, hix, ib, hlt', hw, hd, fN, keep7_16, a1, a2, a3, a4, a5, a6, a7, b1, b2, b3, b4, b5, b6, b7, c1, c2, c3, c4, c5, c6, c7, d1, d2, d3, d4, d5, d6, d7, Am.compactK, Am.idsT, Am.closeStep, Am.keepW, Am.kstdW]
        exact ⟨i + 1, by rw [hnx], hlt, by omega, fun r hr => hr⟩
      | cons y acc =>
        have f1 := flatG encS_no (y :: acc) 1 true
        simp only [List.map_cons] at f1
        simp (decide := true) (implicitDefEqProofs := false) only [Am.findLoop, Am.loopOf, Am.bodyOf, Am.firstReg, Nat.beq, cond_true, cond_false, Am.splice, Am.walkW, Am.stdW, id, reduceCtorEq, Nat.reduceAdd, Nat.reduceSub, Nat.reduceMul, List.forall_mem_cons, List.forall_mem_nil, false_implies, implies_true, Try.f7, factsOf7, canonLi, rowN, accG, accGH, hix, ib, hlt', hw, hd, fN, f1, keep7_16, a1, a2, a3, a4, a5, a6, a7, b1, b2, b3, b4, b5, b6, b7, c1, c2, c3, c4, c5, c6, c7, d1, d2, d3, d4, d5, d6, d7, Am.compactK, Am.idsT, Am.closeStep, Am.keepW, Am.kstdW]
        exact ⟨i + 1, by rw [hnx], hlt, by omega, fun r hr => hr⟩
  · have hlt' : decide ((i : Int) < n.nodes.length) = false := decide_eq_false (by omega)
    have e : i = n.nodes.length := by omega
    subst e
    generalize grpN (bfF n) (nmF n) n.nodes.length k = acc
    cases acc with
    | nil =>
      simp (decide := true) (implicitDefEqProofs := false) only [Am.findLoop, Am.loopOf, Am.bodyOf, Am.firstReg, Nat.beq, cond_true, cond_false, Am.splice, Am.walkW, Am.stdW, id, reduceCtorEq, Nat.reduceAdd, Nat.reduceSub, Nat.reduceMul, List.forall_mem_cons, List.forall_mem_nil, false_implies, implies_true, Try.f7, factsOf7, canonLi, rowN, accG, accGH, hlt', a7]
      refine ⟨rfl, ?_⟩
      simp (decide := true) (implicitDefEqProofs := false) only [Am.findLoop, Am.loopOf, Am.bodyOf, Am.firstReg, Nat.beq, cond_true, cond_false, Am.splice, Am.walkW, Am.stdW, id, reduceCtorEq, Nat.reduceAdd, Nat.reduceSub, Nat.reduceMul, List.forall_mem_cons, List.forall_mem_nil, false_implies, implies_true, Try.f7, factsOf7, outLi, rowN, accG, accGH, fN, a1, a2, a3, a7, b1, b2, b3, b7, c1, c2, c3, c7, d1, d2, d3, d7, Am.compactK, Am.idsT, Am.closeStep, Am.keepW, Am.kstdW]
    | cons y acc =>
      have f1 := flatG encS_no (y :: acc) 1 true
      simp only [List.map_cons] at f1
      simp (decide := true) (implicitDefEqProofs := false) only [Am.findLoop, Am.loopOf, Am.bodyOf, Am.firstReg, Nat.beq, cond_true, cond_false, Am.splice, Am.walkW, Am.stdW, id, reduceCtorEq, Nat.reduceAdd, Nat.reduceSub, Nat.reduceMul, List.forall_mem_cons, List.forall_mem_nil, false_implies, implies_true, Try.f7, factsOf7, canonLi, rowN, accG, accGH, hlt', a7]
      refine ⟨rfl, ?_⟩
      simp (decide := true) (implicitDefEqProofs := false) only [Am.findLoop, Am.loopOf, Am.bodyOf, Am.firstReg, Nat.beq, cond_true, cond_false, Am.splice, Am.walkW, Am.stdW, id, reduceCtorEq, Nat.reduceAdd, Nat.reduceSub, Nat.reduceMul, List.forall_mem_cons, List.forall_mem_nil, false_implies, implies_true, Try.f7, factsOf7, outLi, rowN, accG, accGH, fN, f1, a1, a2, a3, a7, b1, b2, b3, b7, c1, c2, c3, c7, d1, d2, d3, d7, Am.compactK, Am.idsT, Am.closeStep, Am.keepW, Am.kstdW]
noncomputable def canonLo (q0 q1 q2 q3 q4 q5 v7 v10 v63 : PV) (s : ByteArray) (e8 : Int) (m k : Nat) : St :=
  ⟨[(1, .str s), (2, .ptr 0 0 0), (7, v7), (8, .int .i64 e8), (10, v10), (63, v63), (64, .int .i64 m), (65, .int .i64 k)], [rowN q0 q1 q2 q3 q4 q5]⟩
noncomputable def outLo (q0 q1 q2 q3 q4 q5 v7 : PV) (s : ByteArray) (e8 : Int) : St := ⟨[(1, .str s), (2, .ptr 0 0 0), (7, v7), (8, .int .i64 e8)], [rowN q0 q1 q2 q3 q4 q5]⟩
def postLo (q0 q1 q2 q3 q4 q5 v7 : PV) (s : ByteArray) (e8 : Int) (r : Ex × St) : Prop := r.1 = .exit 0 ∧ maskK (hints.keepB 7 0) ⟨7, 0, 141⟩ r.2 = some (outLo q0 q1 q2 q3 q4 q5 v7 s e8)
set_option maxHeartbeats 16000000 in
theorem law_buses (n : Net) (q0 q1 q2 q3 q4 q5 : PV) (hq : NetQ n q0 q1 q2 q3 q4 q5) (hv : VNet n) (l7 : List ByteArray) (s : ByteArray) (e8 : Int) : ∀ (k : Nat) (t : St), k ≤ (busG n).length →
    maskK (hints.keep 7 (firstReg (loopOf Try.f7 12))) ⟨7, 0, 141⟩ t = some (canonLo q0 q1 q2 q3 q4 q5 (outG encS l7) (outN (busF n)) (outG encL (busG n)) s e8 (busG n).length k) →
    Holds (L1.ex ⟨7, 0, 141⟩ (.loop (loopOf Try.f7 12)) t) (postLo q0 q1 q2 q3 q4 q5 (outG encS l7) s e8) := by
  refine loop_rule (σ := Nat) (c := ⟨7, 0, 141⟩) (b := loopOf Try.f7 12) (fun k => canonLo q0 q1 q2 q3 q4 q5 (outG encS l7) (outN (busF n)) (outG encL (busG n)) s e8 (busG n).length k) (fun k => k ≤ (busG n).length) (fun k => (busG n).length - k) (fun _ => postLo q0 q1 q2 q3 q4 q5 (outG encS l7) s e8) ?_
  intro k hk
  have hln := hv.ln
  have fN := hq.no
  unfold rowN at fN
  obtain ⟨a1, a2, a3, a4, a5, a6, a7⟩ := hq.h0.ids
  obtain ⟨b1, b2, b3, b4, b5, b6, b7⟩ := (outG_sl encS l7).ids
  obtain ⟨c1, c2, c3, c4, c5, c6, c7⟩ := (outG_sl encL (busG n)).ids
  obtain ⟨d1, d2, d3, d4, d5, d6, d7⟩ := (outN_sl' (busF n)).ids
  have hnm : (busG n).length ≤ n.nodes.length := grp_num _
  have l0 := fun H => (lens hq H).1
  by_cases hlt : k < (busG n).length
  · have hg := (grp_ok (nm := nmF n) (bus_rgs hv) n.nodes.length (Nat.le_refl _)).2 k hlt
    have hge : ((busG n).map encL)[k]? = some [.lst ((grpN (bfF n) (nmF n) n.nodes.length k).map encS)] := by
      have e : (busG n)[k] = grpN (bfF n) (nmF n) n.nodes.length k := by
        rw [← show (busG n).getD k [] = grpN (bfF n) (nmF n) n.nodes.length k from hg, List.getD_eq_getElem?_getD, List.getElem?_eq_getElem hlt]; rfl
      rw [List.getElem?_map, List.getElem?_eq_getElem hlt, e]; rfl
    have hix := fun H => index_sl (P := Try.prog) (H := H) (outG_sl encL (busG n)) slZ72 (k := .i64) (j := k) (by omega) (by rw [Int.toNat_natCast]; exact hge) rfl
    have hlt' : decide ((k : Int) < (busG n).length) = true := decide_eq_true (by omega)
    have hw : IntKind.i64.wrap ((k : Int) + 1) = ((k + 1 : Nat) : Int) := wrap64 (by omega) (by omega)
    have hin := fun L => law_names n q0 q1 q2 q3 q4 q5 hq hv l7 (busG n) s e8 L (busG n).length k
    have hwn := grpN_len (f := bfF n) (nm := nmF n) k n.nodes.length
    have heq := fun p hp => equalS_call (.lst ((grpN (bfF n) (nmF n) n.nodes.length k).map encS)) p (grpN (bfF n) (nmF n) n.nodes.length k) (.inr rfl) hp (by omega)
    have hin0 : grpN (bfF n) (nmF n) 0 k = [] := rfl
    generalize grpN (bfF n) (nmF n) n.nodes.length k = g at *
    generalize busG n = G at *
    simp (decide := true) (implicitDefEqProofs := false) only [Am.findLoop, Am.loopOf, Am.bodyOf, Am.firstReg, Nat.beq, cond_true, cond_false, Am.splice, Am.walkW, Am.stdW, id, reduceCtorEq, Nat.reduceAdd, Nat.reduceSub, Nat.reduceMul, List.forall_mem_cons, List.forall_mem_nil, false_implies, implies_true, Try.f7, factsOf7, canonLo, rowN, hix, hlt', l0]
    simp only [holds_bind]
    refine (hin (g.map encS) 0 _ (by omega) ?_).mono ?_
    · show maskK (hints.keep 7 16) _ _ = _
      rw [hin0]
      simp (decide := true) (implicitDefEqProofs := false) only [Am.findLoop, Am.loopOf, Am.bodyOf, Am.firstReg, Nat.beq, cond_true, cond_false, Am.splice, Am.walkW, Am.stdW, id, reduceCtorEq, Nat.reduceAdd, Nat.reduceSub, Nat.reduceMul, List.forall_mem_cons, List.forall_mem_nil, false_implies, implies_true, Try.f7, factsOf7, keep7_16, canonLi, rowN, accG, accGH, fN, a1, a2, a3, a4, a5, a6, a7, b1, b2, b3, b4, b5, b6, b7, c1, c2, c3, c4, c5, c6, c7, d1, d2, d3, d4, d5, d6, d7, Am.compactK, Am.idsT, Am.closeStep, Am.keepW, Am.kstdW]
      rfl
    · rintro ⟨e, s'⟩ ⟨h5, h6⟩
      cases h5
      rw [keepB7_2] at h6
      cases g with
      | nil =>
        have heq := heq .nils (.inl ⟨rfl, rfl⟩)
        simp only [List.map_nil] at heq h6
        simp (decide := true) (implicitDefEqProofs := false) only [Am.findLoop, Am.loopOf, Am.bodyOf, Am.firstReg, Nat.beq, cond_true, cond_false, Am.splice, Am.walkW, Am.stdW, id, reduceCtorEq, Nat.reduceAdd, Nat.reduceSub, Nat.reduceMul, List.forall_mem_cons, List.forall_mem_nil, false_implies, implies_true, Try.f7, factsOf7, h6, outLi, rowN, accG, accGH, heq, hw, fN, keep7_12, a1, a2, a3, a4, a5, a6, a7, b1, b2, b3, b4, b5, b6, b7, c1, c2, c3, c4, c5, c6, c7, d1, d2, d3, d4, d5, d6, d7, Am.compactK, Am.idsT, Am.closeStep, Am.keepW, Am.kstdW]
        exact ⟨k + 1, rfl, hlt, by omega, fun r hr => hr⟩
      | cons y acc =>
        have heq := heq (.lst ((y :: acc).map encS)) (.inr rfl)
        have hex : ∀ H : List Mem, H[1]? = some (.row ((y :: acc).map encS) 1 true) → exp expFuel H (.ref 1 0 (acc.length + 1) (acc.length + 1)) = some (.lst ((y :: acc).map encS)) := fun H hH => exp_full hH (by simp) (by
          intro c hc v hv
          obtain ⟨x, _, rfl⟩ := List.mem_map.1 hc
          exact encS_plainK x v hv)
        have f1 := flatG encS_no (y :: acc) 1 true
        simp only [List.map_cons] at heq h6 hex f1
        simp (decide := true) (implicitDefEqProofs := false) only [Am.findLoop, Am.loopOf, Am.bodyOf, Am.firstReg, Nat.beq, cond_true, cond_false, Am.splice, Am.walkW, Am.stdW, id, reduceCtorEq, Nat.reduceAdd, Nat.reduceSub, Nat.reduceMul, List.forall_mem_cons, List.forall_mem_nil, false_implies, implies_true, Try.f7, factsOf7, h6, outLi, rowN, accG, accGH, heq, hex, hw, fN, f1, keep7_12, a1, a2, a3, a4, a5, a6, a7, b1, b2, b3, b4, b5, b6, b7, c1, c2, c3, c4, c5, c6, c7, d1, d2, d3, d4, d5, d6, d7, Am.compactK, Am.idsT, Am.closeStep, Am.keepW, Am.kstdW]
        exact ⟨k + 1, rfl, hlt, by omega, fun r hr => hr⟩
  · have hlt' : decide ((k : Int) < (busG n).length) = false := decide_eq_false (by omega)
    simp (decide := true) (implicitDefEqProofs := false) only [Am.findLoop, Am.loopOf, Am.bodyOf, Am.firstReg, Nat.beq, cond_true, cond_false, Am.splice, Am.walkW, Am.stdW, id, reduceCtorEq, Nat.reduceAdd, Nat.reduceSub, Nat.reduceMul, List.forall_mem_cons, List.forall_mem_nil, false_implies, implies_true, Try.f7, factsOf7, canonLo, rowN, hlt']
    refine ⟨rfl, ?_⟩
    simp (decide := true) (implicitDefEqProofs := false) only [Am.findLoop, Am.loopOf, Am.bodyOf, Am.firstReg, Nat.beq, cond_true, cond_false, Am.splice, Am.walkW, Am.stdW, id, reduceCtorEq, Nat.reduceAdd, Nat.reduceSub, Nat.reduceMul, List.forall_mem_cons, List.forall_mem_nil, false_implies, implies_true, Try.f7, factsOf7, outLo, rowN, fN, a1, a2, a3, a4, a5, a6, a7, b1, b2, b3, b4, b5, b6, b7, Am.compactK, Am.idsT, Am.closeStep, Am.keepW, Am.kstdW]
end Go.Proofs.Ytcclbkkgpcpikaa

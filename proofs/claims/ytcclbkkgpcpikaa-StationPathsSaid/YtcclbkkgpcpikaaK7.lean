/-
  For every network and every two names the law 'StationPaths' returns true, and its arguments read afterwards as before. Conditions: none beyond the given statement's.
-/
import Derived.Test.YtcclbkkgpcpikaaK9
import Derived.Test.YtcclbkkgpcpikaaGD
import Derived.Test.YtcclbkkgpcpikaaTop
set_option linter.unusedSimpArgs false
set_option linter.unusedVariables false
namespace Go.Proofs.Ytcclbkkgpcpikaa
open Go.Am
set_option maxRecDepth 100000
theorem stationFact_call : pureCall hints L1 37 [] = some (.bool true) := by
  simp only [pureCall, prim37, factOf, Option.bind_some]; rfl
theorem atL_get_lt (n : Net) (op : Bool) {w : List Nat} (h : ∀ k ∈ w, k < (edgA n op).length) : ∀ k ∈ w.map (fun k => (atL n op).getD k 0), k < n.sw.length := by
  intro k hk
  obtain ⟨j, hj, rfl⟩ := List.mem_map.1 hk
  have hl : j < (atL n op).length := by unfold atL; rw [List.length_map]; exact h j hj
  rw [getD_get hl]
  exact atL_lt n op _ (List.getElem_mem hl)
theorem names_eq (n : Net) (op : Bool) (w : List Nat) : (w.map fun k => swNm n ((atL n op).getD k 0)) = (w.map fun k => (atL n op).getD k 0).map fun k => swNm n k := by rw [List.map_map]; rfl
theorem len_outG {t : TypeId} {z : Nat} (hz : slZ Try.prog t = some z) (H : List Mem) (l : List ByteArray) : lenPV Try.prog H t (outG encS l) = some (.int .i64 l.length) := by
  have := len_sl (P := Try.prog) (H := H) (outS_sl l) hz
  rwa [List.length_map] at this
set_option maxHeartbeats 32000000 in
theorem station_main (n : Net) (q0 q1 q2 q3 q4 q5 : PV) (hq : NetQ n q0 q1 q2 q3 q4 q5) (a b : ByteArray) (h0 : stE n [a, b] = 0) : Holds (L1.rn 8 [.agg [q0, q1, q2, q3, q4, q5], .str a, .str b] []) (fun r => r.1 = .bool true) := by
  have hfact := stationFact_call
  have hne := hq.exp
  have hnr := hq.rch
  have fN := hq.no
  unfold rowN at fN
  obtain ⟨h1, h2, h3⟩ := chk_zero h0
  have hv := vnet h1
  have hge := netError_call n q0 q1 q2 q3 q4 q5 hq
  rw [h1] at hge
  have hll := hv.ls
  have hln := hv.ln
  have hlm : n.nodes.length ≤ maxLen := by unfold maxLen; omega
  have ha := has_call q0 n.nodes hq.h0 a hlm
  have hb := has_call q0 n.nodes hq.h0 b hlm
  rw [h2] at ha
  rw [h3] at hb
  have pa := place_call q0 n.nodes hq.h0 a hlm
  have pb := place_call q0 n.nodes hq.h0 b hlm
  obtain ⟨pa1, pa2⟩ := plN_ok h2
  obtain ⟨pb1, pb2⟩ := plN_ok h3
  rw [pa1] at pa
  rw [pb1] at pb
  have hwd := wide_call n q0 q1 q2 q3 q4 q5 hq
  have l0 := fun H => (lens hq H).1
  have l1 := fun H => (lens hq H).2.1
  have n0e := fun H => hq.h0.plain.exp (H := H)
  have n0r := fun H => hq.h0.rch (H := H)
  have lz := fun H => len_nils (P := Try.prog) (H := H) slZ41
  have lS := fun H => len_outG slZ41 H
  -- what the program answers
  have hp := spath_call n q0 q1 q2 q3 q4 q5 hq a b
  have hj := sjoin_call n q0 q1 q2 q3 q4 q5 hq a b
  have hpl := path_law hv pa2 pb2
  have hjl := join_law hv pa2 pb2
  have hp0 : sPathV n a b = if (wayR n.nodes.length (closedL n) (plN n a) (plN n b)).1 = true then .tup [outG encS (((wayR n.nodes.length (closedL n) (plN n a) (plN n b)).2.map fun k => (atL n false).getD k 0).map fun k => swNm n k), .int .i64 0] else .tup [.nils, .int .i64 8] := by
    unfold sPathV
    rw [if_neg (by simpa using h0), names_eq]
  have hj0 : sJoinV n a b = if (wayR n.nodes.length (joinL n) ((busF n).getD (plN n a) 0) ((busF n).getD (plN n b) 0)).1 = true then .tup [outG encS (((wayR n.nodes.length (joinL n) ((busF n).getD (plN n a) 0) ((busF n).getD (plN n b) 0)).2.map fun k => (atL n true).getD k 0).map fun k => swNm n k), .int .i64 0] else .tup [.nils, .int .i64 8] := by
    unfold sJoinV joinW
    rw [if_neg (by simpa using h0), names_eq]
  have b1 := bus_le hv pa2
  have b2 := bus_le hv pb2
  have hF1 := farOk hln (edgA_ok hv false).1 pb2
  have hF2 := farOk hln (joinL_ok hv) (show (busF n).getD (plN n b) 0 < n.nodes.length by omega)
  have k1 := atL_get_lt n false (w := (wayR n.nodes.length (closedL n) (plN n a) (plN n b)).2) (fun k hk => by have := way_lt k hk; simpa [closedL] using this)
  have k2 := atL_get_lt n true (w := (wayR n.nodes.length (joinL n) ((busF n).getD (plN n a) 0) ((busF n).getD (plN n b) 0)).2) (fun k hk => by have := way_lt k hk; simpa [joinL] using this)
  have m1 : (wayR n.nodes.length (closedL n) (plN n a) (plN n b)).2.length ≤ 100 := way_len hF1 pa2
  have m2 := way_len hF2 (show (busF n).getD (plN n a) 0 < n.nodes.length by omega)
  rw [hp0] at hp
  rw [hj0] at hj
  -- what the reference answers
  have hso := swL_ok hv
  have hsl : (swL n).length ≤ 64 := by rw [swL, List.length_map]; omega
  have hml := many_le hv
  have ok1 := busE_ok hv (m := manyF n) (fun i hi => bus_lt hv hi)
  have hs1 := short_call n.nodes.length hln _ _ (outG_sl enc2N (swL n)) hso hsl _ _ _ (clo_closed n q0 q1 q2 q3 q4 q5 hq) (plN n a) (plN n b) pa2 pb2
  have hs2 := short_call (manyF n) (by omega) _ _ (outG_sl enc2N ((swL n).map (busE n))) ok1 (by rw [List.length_map]; exact hsl) _ _ _ (clo_opn n q0 q1 q2 q3 q4 q5 hq (by rw [List.length_map, swL, List.length_map])) ((busF n).getD (plN n a) 0) ((busF n).getD (plN n b) 0) (bus_lt hv pa2) (bus_lt hv pb2)
  rw [hpl] at hs1
  rw [hjl] at hs2
  simp only at hs1 hs2
  have ew1 : ∀ w : List Nat, (w.map fun k => (atL n false).getD k 0).length = w.length := fun w => List.length_map _
  have ew2 : ∀ w : List Nat, (w.map fun k => (atL n true).getD k 0).length = w.length := fun w => List.length_map _
  generalize wayR n.nodes.length (closedL n) (plN n a) (plN n b) = W1 at hp hs1 k1 m1
  generalize wayR n.nodes.length (joinL n) ((busF n).getD (plN n a) 0) ((busF n).getD (plN n b) 0) = W2 at hj hs2 k2 m2
  obtain ⟨o1, w1⟩ := W1
  obtain ⟨o2, w2⟩ := W2
  simp only at hp hs1 k1 m1 hj hs2 k2 m2
  rw [← ew1 w1] at m1
  rw [← ew2 w2] at m2
  generalize (w1.map fun k => (atL n false).getD k 0) = s1 at hp hs1 k1 m1
  generalize (w2.map fun k => (atL n true).getD k 0) = s2 at hj hs2 k2 m2
  have nm1 := named_call n q0 q1 q2 q3 q4 q5 hq (outN s1) s1 (outN_sl' s1) (by omega) k1 hll
  have nm2 := named_call n q0 q1 q2 q3 q4 q5 hq (outN s2) s2 (outN_sl' s2) (by omega) k2 hll
  have eq1 := equalS_call _ _ (s1.map fun k => swNm n k) (outS_sl _) (outS_sl _) (by rw [List.length_map]; omega)
  have eq2 := equalS_call _ _ (s2.map fun k => swNm n k) (outS_sl _) (outS_sl _) (by rw [List.length_map]; omega)
  have g1 := fun H => (outN_sl' s1).plain.exp (H := H)
  have g2 := fun H => (outN_sl' s2).plain.exp (H := H)
  have r1 := fun H => (outN_sl' s1).rch (H := H)
  have r2 := fun H => (outN_sl' s2).rch (H := H)
  generalize s1.map (fun k => swNm n k) = t1 at hp nm1 eq1
  generalize s2.map (fun k => swNm n k) = t2 at hj nm2 eq2
  have x1 := fun H => (outS_sl t1).plain.exp (H := H)
  have x2 := fun H => (outS_sl t2).plain.exp (H := H)
  have y1 := fun H => (outS_sl t1).rch (H := H)
  have y2 := fun H => (outS_sl t2).rch (H := H)
  have hwB : wideB n = wideB n := rfl
  by_cases hw : wideB n = true
  · rw [hw] at hwd
    cases o1 <;> cases o2 <;> simp only [Bool.false_eq_true, if_false, if_true] at hp hj
    · refine rn_rule (fn := Try.f8) (code := bodyOf Try.f8) ok8 Try.func8 (by kernel_rfl) (Nat.le_of_ble_eq_true (by kernel_rfl)) ?_
      simp (decide := true) (implicitDefEqProofs := false) only [Am.findLoop, Am.loopOf, Am.bodyOf, Am.firstReg, Nat.beq, cond_true, cond_false, Am.splice, Am.walkW, Am.stdW, id, reduceCtorEq, Nat.reduceAdd, Nat.reduceSub, Nat.reduceMul, List.forall_mem_cons, List.forall_mem_nil, false_implies, implies_true, Try.f8, factsOf8, hfact, hp, hj, hge, hne, hnr, n0e, n0r, ha, hb, hwd]
    · refine rn_rule (fn := Try.f8) (code := bodyOf Try.f8) ok8 Try.func8 (by kernel_rfl) (Nat.le_of_ble_eq_true (by kernel_rfl)) ?_
      simp (decide := true) (implicitDefEqProofs := false) only [Am.findLoop, Am.loopOf, Am.bodyOf, Am.firstReg, Nat.beq, cond_true, cond_false, Am.splice, Am.walkW, Am.stdW, id, reduceCtorEq, Nat.reduceAdd, Nat.reduceSub, Nat.reduceMul, List.forall_mem_cons, List.forall_mem_nil, false_implies, implies_true, Try.f8, factsOf8, hfact, hp, hj, hge, hne, hnr, n0e, n0r, ha, hb, hwd]
    · refine rn_rule (fn := Try.f8) (code := bodyOf Try.f8) ok8 Try.func8 (by kernel_rfl) (Nat.le_of_ble_eq_true (by kernel_rfl)) ?_
      simp (decide := true) (implicitDefEqProofs := false) only [Am.findLoop, Am.loopOf, Am.bodyOf, Am.firstReg, Nat.beq, cond_true, cond_false, Am.splice, Am.walkW, Am.stdW, id, reduceCtorEq, Nat.reduceAdd, Nat.reduceSub, Nat.reduceMul, List.forall_mem_cons, List.forall_mem_nil, false_implies, implies_true, Try.f8, factsOf8, hfact, hp, hj, hge, hne, hnr, n0e, n0r, ha, hb, hwd]
    · refine rn_rule (fn := Try.f8) (code := bodyOf Try.f8) ok8 Try.func8 (by kernel_rfl) (Nat.le_of_ble_eq_true (by kernel_rfl)) ?_
      simp (decide := true) (implicitDefEqProofs := false) only [Am.findLoop, Am.loopOf, Am.bodyOf, Am.firstReg, Nat.beq, cond_true, cond_false, Am.splice, Am.walkW, Am.stdW, id, reduceCtorEq, Nat.reduceAdd, Nat.reduceSub, Nat.reduceMul, List.forall_mem_cons, List.forall_mem_nil, false_implies, implies_true, Try.f8, factsOf8, hfact, hp, hj, hge, hne, hnr, n0e, n0r, ha, hb, hwd]
  · have hw' : wideB n = false := by simpa using hw
    rw [hw'] at hwd
    cases h8 : decide ((8 : Int) < n.sw.length) with
    | true =>
      cases o1 <;> cases o2 <;> simp only [Bool.false_eq_true, if_false, if_true] at hp hj
      · refine rn_rule (fn := Try.f8) (code := bodyOf Try.f8) ok8 Try.func8 (by kernel_rfl) (Nat.le_of_ble_eq_true (by kernel_rfl)) ?_
        simp (decide := true) (implicitDefEqProofs := false) only [Am.findLoop, Am.loopOf, Am.bodyOf, Am.firstReg, Nat.beq, cond_true, cond_false, Am.splice, Am.walkW, Am.stdW, id, reduceCtorEq, Nat.reduceAdd, Nat.reduceSub, Nat.reduceMul, List.forall_mem_cons, List.forall_mem_nil, false_implies, implies_true, Try.f8, factsOf8, hfact, hp, hj, hge, hne, hnr, n0e, n0r, ha, hb, hwd, l1, h8]
      · refine rn_rule (fn := Try.f8) (code := bodyOf Try.f8) ok8 Try.func8 (by kernel_rfl) (Nat.le_of_ble_eq_true (by kernel_rfl)) ?_
        simp (decide := true) (implicitDefEqProofs := false) only [Am.findLoop, Am.loopOf, Am.bodyOf, Am.firstReg, Nat.beq, cond_true, cond_false, Am.splice, Am.walkW, Am.stdW, id, reduceCtorEq, Nat.reduceAdd, Nat.reduceSub, Nat.reduceMul, List.forall_mem_cons, List.forall_mem_nil, false_implies, implies_true, Try.f8, factsOf8, hfact, hp, hj, hge, hne, hnr, n0e, n0r, ha, hb, hwd, l1, h8]
      · refine rn_rule (fn := Try.f8) (code := bodyOf Try.f8) ok8 Try.func8 (by kernel_rfl) (Nat.le_of_ble_eq_true (by kernel_rfl)) ?_
        simp (decide := true) (implicitDefEqProofs := false) only [Am.findLoop, Am.loopOf, Am.bodyOf, Am.firstReg, Nat.beq, cond_true, cond_false, Am.splice, Am.walkW, Am.stdW, id, reduceCtorEq, Nat.reduceAdd, Nat.reduceSub, Nat.reduceMul, List.forall_mem_cons, List.forall_mem_nil, false_implies, implies_true, Try.f8, factsOf8, hfact, hp, hj, hge, hne, hnr, n0e, n0r, ha, hb, hwd, l1, h8]
      · refine rn_rule (fn := Try.f8) (code := bodyOf Try.f8) ok8 Try.func8 (by kernel_rfl) (Nat.le_of_ble_eq_true (by kernel_rfl)) ?_
        simp (decide := true) (implicitDefEqProofs := false) only [Am.findLoop, Am.loopOf, Am.bodyOf, Am.firstReg, Nat.beq, cond_true, cond_false, Am.splice, Am.walkW, Am.stdW, id, reduceCtorEq, Nat.reduceAdd, Nat.reduceSub, Nat.reduceMul, List.forall_mem_cons, List.forall_mem_nil, false_implies, implies_true, Try.f8, factsOf8, hfact, hp, hj, hge, hne, hnr, n0e, n0r, ha, hb, hwd, l1, h8]
    | false =>
      have hsw := fun b => switching_imp n q0 q1 q2 q3 q4 q5 hq hv b
      have hcl := closed_call n q0 q1 q2 q3 q4 q5 hq
      have hrb := rbuses_call n q0 q1 q2 q3 q4 q5 hq hv
      have ob := fun H => (outN_sl' (busF n)).plain.exp (H := H)
      have or_ := fun H => (outN_sl' (busF n)).rch (H := H)
      have obi := (outN_sl' (busF n)).ids
      obtain ⟨d1, d2, d3, d4, d5, d6, d7⟩ := (outN_sl' (busF n)).ids
      have hBl := (bus_num hv).1
      have ib := fun H => index_sl (P := Try.prog) (H := H) (outN_sl' (busF n)) slZ24 (k := .i64) (j := plN n a) (by omega) (by rw [Int.toNat_natCast]; exact getN (by omega : plN n a < (busF n).length)) rfl
      have ic := fun H => index_sl (P := Try.prog) (H := H) (outN_sl' (busF n)) slZ24 (k := .i64) (j := plN n b) (by omega) (by rw [Int.toNat_natCast]; exact getN (by omega : plN n b < (busF n).length)) rfl
      rw [← getD_get (by omega : plN n a < (busF n).length)] at ib
      rw [← getD_get (by omega : plN n b < (busF n).length)] at ic
      have hmo := most_call (outN (busF n)) (busF n) (outN_sl' (busF n)) (by omega) (fun x hx => by
        obtain ⟨i, hi, rfl⟩ := List.getElem_of_mem hx
        have := bus_le hv (show i < n.nodes.length by omega)
        rw [getD_get (by omega : i < (busF n).length)] at this
        omega)
      rw [show mostF 0 (busF n) = manyF n from rfl] at hmo
      have e38 : ∀ H : List Mem, omap (exp 38 H) [q0, q1, q2, q3, q4, q5] = some [q0, q1, q2, q3, q4, q5] := fun H => plains (n := 37) (by
        intro c hc
        simp only [List.mem_cons, List.not_mem_nil, or_false] at hc
        rcases hc with rfl | rfl | rfl | rfl | rfl | rfl
        · exact hq.h0.plain
        · exact hq.h1.plain
        · exact hq.h2.plain
        · exact hq.h3.plain
        · exact hq.h4.plain
        · exact hq.h5.plain)
      have r38 : ∀ H : List Mem, ([q0, q1, q2, q3, q4, q5]).flatMap (Am.rch 38 H) = [] := fun H => by
        rw [List.flatMap_eq_nil_iff]
        intro c hc
        simp only [List.mem_cons, List.not_mem_nil, or_false] at hc
        rcases hc with rfl | rfl | rfl | rfl | rfl | rfl
        · exact Sl_rchn hq.h0 37 H
        · exact Sl_rchn hq.h1 37 H
        · exact Sl_rchn hq.h2 37 H
        · exact Sl_rchn hq.h3 37 H
        · exact Sl_rchn hq.h4 37 H
        · exact Sl_rchn hq.h5 37 H
      have hll' : (swL n).length = n.sw.length := by rw [swL, List.length_map]
      have hclx := hcl
      cases hz : swL n with
      | nil =>
        rw [hz] at hs1 hs2 hsw hll'
        simp only [List.map_nil, outG] at hs1 hs2
        have hlz := fun H => len_nils (P := Try.prog) (H := H) slZ22
        have fS : flatM (.row ([] : List (List PV)) 2 true) = true := rfl
        have hll' : n.sw.length = 0 := by rw [← hll']; rfl
        cases o1 with
        | true =>
          cases o2 with
          | true =>
            simp only [Bool.false_eq_true, if_true, if_false] at hp hj
            obtain ⟨c1, c2, c3, c4, c5, c6, c7⟩ := (outS_sl t2).ids
            refine rn_rule (fn := Try.f8) (code := bodyOf Try.f8) ok8 Try.func8 (by kernel_rfl) (Nat.le_of_ble_eq_true (by kernel_rfl)) ?_
            simp (maxSteps := 2000000) (decide := true) (implicitDefEqProofs := false) only [Am.findLoop, Am.loopOf, Am.bodyOf, Am.firstReg, Nat.beq, cond_true, cond_false, Am.splice, Am.walkW, Am.stdW, id, reduceCtorEq, Nat.reduceAdd, Nat.reduceSub, Nat.reduceMul, List.forall_mem_cons, List.forall_mem_nil, false_implies, implies_true, Try.f8, factsOf8, hfact, hp, hj, hge, hne, hnr, n0e, n0r, ha, hb, hwd, l0, l1, h8, hsw, hcl, hs1, hrb, pa, pb, hlz, accG, accGH, exp40_func, rch40_func, exp39_box, rch39_box, freeze_nil, freeze_cons, freeze1_O, frzO_row, nm1, eq1, g1, r1, x1, y1]
            simp only [holds_bind]
            refine (law_edges n q0 q1 q2 q3 q4 q5 hq hv (outG encS t2) t2 (outS_sl t2) 0 (plN n a) (plN n b) (0, []) _ ⟨Nat.zero_le _, rfl⟩ ?_).mono ?_
            · show maskK (hints.keep 8 19) _ _ = _
              simp (decide := true) (implicitDefEqProofs := false) only [Am.findLoop, Am.loopOf, Am.bodyOf, Am.firstReg, Nat.beq, cond_true, cond_false, Am.splice, Am.walkW, Am.stdW, id, reduceCtorEq, Nat.reduceAdd, Nat.reduceSub, Nat.reduceMul, List.forall_mem_cons, List.forall_mem_nil, false_implies, implies_true, Try.f8, factsOf8, keep8_19, canonLs, hz, hll', rowN, accG, accGH, fN, fS, c1, c2, c3, c4, c5, c6, c7, d1, d2, d3, d4, d5, d6, d7, Am.compactK, Am.idsT, Am.closeStep, Am.keepW, Am.kstdW]
              try rfl
            · rintro ⟨e, s'⟩ ⟨h5, h6⟩
              cases h5
              rw [keepB8_0] at h6
              simp only [List.drop_zero, List.nil_append, hz] at h6
              simp (maxSteps := 2000000) (decide := true) (implicitDefEqProofs := false) only [Am.findLoop, Am.loopOf, Am.bodyOf, Am.firstReg, Nat.beq, cond_true, cond_false, Am.splice, Am.walkW, Am.stdW, id, reduceCtorEq, Nat.reduceAdd, Nat.reduceSub, Nat.reduceMul, List.forall_mem_cons, List.forall_mem_nil, false_implies, implies_true, Try.f8, factsOf8, h6, outLs, rowN, accG, accGH, List.map_cons, List.map_nil, hmo, ib, ic, hs2, hclx, hlz, nm2, eq2, g2, r2, x2, y2, hne, hnr, freeze_nil, freeze_cons, freeze1_O, frzO_row, ob, or_, exp40_ref, exp39_ref, exp39_str, exp39_bool, exp39_int, exp39_lst, exp39_box, exp38_str, exp38_int, rowC_row, rch40_ref, rch39_ref, rch39_str, rch39_bool, rch39_int, rch38_str, rch38_int, rchO_row, exp40_func, exp40_ptr, exp39_ptr, ptrC_row, rch40_func, rch40_ptr, rch39_ptr, rchP_row, freeze_cons, freeze1_O, frzO_row, Option.getD_some, e38, r38]
          | false =>
            simp only [Bool.false_eq_true, if_true, if_false] at hp hj
            refine rn_rule (fn := Try.f8) (code := bodyOf Try.f8) ok8 Try.func8 (by kernel_rfl) (Nat.le_of_ble_eq_true (by kernel_rfl)) ?_
            simp (maxSteps := 2000000) (decide := true) (implicitDefEqProofs := false) only [Am.findLoop, Am.loopOf, Am.bodyOf, Am.firstReg, Nat.beq, cond_true, cond_false, Am.splice, Am.walkW, Am.stdW, id, reduceCtorEq, Nat.reduceAdd, Nat.reduceSub, Nat.reduceMul, List.forall_mem_cons, List.forall_mem_nil, false_implies, implies_true, Try.f8, factsOf8, hfact, hp, hj, hge, hne, hnr, n0e, n0r, ha, hb, hwd, l0, l1, h8, hsw, hcl, hs1, hrb, pa, pb, hlz, accG, accGH, exp40_func, rch40_func, exp39_box, rch39_box, freeze_nil, freeze_cons, freeze1_O, frzO_row, nm1, eq1, g1, r1, x1, y1]
            simp only [holds_bind]
            refine (law_edges n q0 q1 q2 q3 q4 q5 hq hv .nils [] (.inl ⟨rfl, rfl⟩) 8 (plN n a) (plN n b) (0, []) _ ⟨Nat.zero_le _, rfl⟩ ?_).mono ?_
            · show maskK (hints.keep 8 19) _ _ = _
              simp (decide := true) (implicitDefEqProofs := false) only [Am.findLoop, Am.loopOf, Am.bodyOf, Am.firstReg, Nat.beq, cond_true, cond_false, Am.splice, Am.walkW, Am.stdW, id, reduceCtorEq, Nat.reduceAdd, Nat.reduceSub, Nat.reduceMul, List.forall_mem_cons, List.forall_mem_nil, false_implies, implies_true, Try.f8, factsOf8, keep8_19, canonLs, hz, hll', rowN, accG, accGH, fN, fS, d1, d2, d3, d4, d5, d6, d7, Am.compactK, Am.idsT, Am.closeStep, Am.keepW, Am.kstdW]
              try rfl
            · rintro ⟨e, s'⟩ ⟨h5, h6⟩
              cases h5
              rw [keepB8_0] at h6
              simp only [List.drop_zero, List.nil_append, hz] at h6
              simp (maxSteps := 2000000) (decide := true) (implicitDefEqProofs := false) only [Am.findLoop, Am.loopOf, Am.bodyOf, Am.firstReg, Nat.beq, cond_true, cond_false, Am.splice, Am.walkW, Am.stdW, id, reduceCtorEq, Nat.reduceAdd, Nat.reduceSub, Nat.reduceMul, List.forall_mem_cons, List.forall_mem_nil, false_implies, implies_true, Try.f8, factsOf8, h6, outLs, rowN, accG, accGH, List.map_cons, List.map_nil, hmo, ib, ic, hs2, hclx, hlz, lz, freeze_nil, freeze_cons, freeze1_O, frzO_row, ob, or_, exp40_ref, exp39_ref, exp39_str, exp39_bool, exp39_int, exp39_lst, exp39_box, exp38_str, exp38_int, rowC_row, rch40_ref, rch39_ref, rch39_str, rch39_bool, rch39_int, rch38_str, rch38_int, rchO_row, exp40_func, exp40_ptr, exp39_ptr, ptrC_row, rch40_func, rch40_ptr, rch39_ptr, rchP_row, freeze_cons, freeze1_O, frzO_row, Option.getD_some, e38, r38]
        | false =>
          cases o2 with
          | true =>
            simp only [Bool.false_eq_true, if_true, if_false] at hp hj
            obtain ⟨c1, c2, c3, c4, c5, c6, c7⟩ := (outS_sl t2).ids
            refine rn_rule (fn := Try.f8) (code := bodyOf Try.f8) ok8 Try.func8 (by kernel_rfl) (Nat.le_of_ble_eq_true (by kernel_rfl)) ?_
            simp (maxSteps := 2000000) (decide := true) (implicitDefEqProofs := false) only [Am.findLoop, Am.loopOf, Am.bodyOf, Am.firstReg, Nat.beq, cond_true, cond_false, Am.splice, Am.walkW, Am.stdW, id, reduceCtorEq, Nat.reduceAdd, Nat.reduceSub, Nat.reduceMul, List.forall_mem_cons, List.forall_mem_nil, false_implies, implies_true, Try.f8, factsOf8, hfact, hp, hj, hge, hne, hnr, n0e, n0r, ha, hb, hwd, l0, l1, h8, hsw, hcl, hs1, hrb, pa, pb, hlz, accG, accGH, exp40_func, rch40_func, exp39_box, rch39_box, freeze_nil, freeze_cons, freeze1_O, frzO_row, lz]
            simp only [holds_bind]
            refine (law_edges n q0 q1 q2 q3 q4 q5 hq hv (outG encS t2) t2 (outS_sl t2) 0 (plN n a) (plN n b) (0, []) _ ⟨Nat.zero_le _, rfl⟩ ?_).mono ?_
            · show maskK (hints.keep 8 19) _ _ = _
              simp (decide := true) (implicitDefEqProofs := false) only [Am.findLoop, Am.loopOf, Am.bodyOf, Am.firstReg, Nat.beq, cond_true, cond_false, Am.splice, Am.walkW, Am.stdW, id, reduceCtorEq, Nat.reduceAdd, Nat.reduceSub, Nat.reduceMul, List.forall_mem_cons, List.forall_mem_nil, false_implies, implies_true, Try.f8, factsOf8, keep8_19, canonLs, hz, hll', rowN, accG, accGH, fN, fS, c1, c2, c3, c4, c5, c6, c7, d1, d2, d3, d4, d5, d6, d7, Am.compactK, Am.idsT, Am.closeStep, Am.keepW, Am.kstdW]
              try rfl
            · rintro ⟨e, s'⟩ ⟨h5, h6⟩
              cases h5
              rw [keepB8_0] at h6
              simp only [List.drop_zero, List.nil_append, hz] at h6
              simp (maxSteps := 2000000) (decide := true) (implicitDefEqProofs := false) only [Am.findLoop, Am.loopOf, Am.bodyOf, Am.firstReg, Nat.beq, cond_true, cond_false, Am.splice, Am.walkW, Am.stdW, id, reduceCtorEq, Nat.reduceAdd, Nat.reduceSub, Nat.reduceMul, List.forall_mem_cons, List.forall_mem_nil, false_implies, implies_true, Try.f8, factsOf8, h6, outLs, rowN, accG, accGH, List.map_cons, List.map_nil, hmo, ib, ic, hs2, hclx, hlz, nm2, eq2, g2, r2, x2, y2, hne, hnr, freeze_nil, freeze_cons, freeze1_O, frzO_row, ob, or_, exp40_ref, exp39_ref, exp39_str, exp39_bool, exp39_int, exp39_lst, exp39_box, exp38_str, exp38_int, rowC_row, rch40_ref, rch39_ref, rch39_str, rch39_bool, rch39_int, rch38_str, rch38_int, rchO_row, exp40_func, exp40_ptr, exp39_ptr, ptrC_row, rch40_func, rch40_ptr, rch39_ptr, rchP_row, freeze_cons, freeze1_O, frzO_row, Option.getD_some, e38, r38]
          | false =>
            simp only [Bool.false_eq_true, if_true, if_false] at hp hj
            refine rn_rule (fn := Try.f8) (code := bodyOf Try.f8) ok8 Try.func8 (by kernel_rfl) (Nat.le_of_ble_eq_true (by kernel_rfl)) ?_
            simp (maxSteps := 2000000) (decide := true) (implicitDefEqProofs := false) only [Am.findLoop, Am.loopOf, Am.bodyOf, Am.firstReg, Nat.beq, cond_true, cond_false, Am.splice, Am.walkW, Am.stdW, id, reduceCtorEq, Nat.reduceAdd, Nat.reduceSub, Nat.reduceMul, List.forall_mem_cons, List.forall_mem_nil, false_implies, implies_true, Try.f8, factsOf8, hfact, hp, hj, hge, hne, hnr, n0e, n0r, ha, hb, hwd, l0, l1, h8, hsw, hcl, hs1, hrb, pa, pb, hlz, accG, accGH, exp40_func, rch40_func, exp39_box, rch39_box, freeze_nil, freeze_cons, freeze1_O, frzO_row, lz]
            simp only [holds_bind]
            refine (law_edges n q0 q1 q2 q3 q4 q5 hq hv .nils [] (.inl ⟨rfl, rfl⟩) 8 (plN n a) (plN n b) (0, []) _ ⟨Nat.zero_le _, rfl⟩ ?_).mono ?_
            · show maskK (hints.keep 8 19) _ _ = _
              simp (decide := true) (implicitDefEqProofs := false) only [Am.findLoop, Am.loopOf, Am.bodyOf, Am.firstReg, Nat.beq, cond_true, cond_false, Am.splice, Am.walkW, Am.stdW, id, reduceCtorEq, Nat.reduceAdd, Nat.reduceSub, Nat.reduceMul, List.forall_mem_cons, List.forall_mem_nil, false_implies, implies_true, Try.f8, factsOf8, keep8_19, canonLs, hz, hll', rowN, accG, accGH, fN, fS, d1, d2, d3, d4, d5, d6, d7, Am.compactK, Am.idsT, Am.closeStep, Am.keepW, Am.kstdW]
              try rfl
            · rintro ⟨e, s'⟩ ⟨h5, h6⟩
              cases h5
              rw [keepB8_0] at h6
              simp only [List.drop_zero, List.nil_append, hz] at h6
              simp (maxSteps := 2000000) (decide := true) (implicitDefEqProofs := false) only [Am.findLoop, Am.loopOf, Am.bodyOf, Am.firstReg, Nat.beq, cond_true, cond_false, Am.splice, Am.walkW, Am.stdW, id, reduceCtorEq, Nat.reduceAdd, Nat.reduceSub, Nat.reduceMul, List.forall_mem_cons, List.forall_mem_nil, false_implies, implies_true, Try.f8, factsOf8, h6, outLs, rowN, accG, accGH, List.map_cons, List.map_nil, hmo, ib, ic, hs2, hclx, hlz, lz, freeze_nil, freeze_cons, freeze1_O, frzO_row, ob, or_, exp40_ref, exp39_ref, exp39_str, exp39_bool, exp39_int, exp39_lst, exp39_box, exp38_str, exp38_int, rowC_row, rch40_ref, rch39_ref, rch39_str, rch39_bool, rch39_int, rch38_str, rch38_int, rchO_row, exp40_func, exp40_ptr, exp39_ptr, ptrC_row, rch40_func, rch40_ptr, rch39_ptr, rchP_row, freeze_cons, freeze1_O, frzO_row, Option.getD_some, e38, r38]
      | cons y acc =>
        rw [hz] at hs1 hs2 hsw hll'
        have hex : ∀ H : List Mem, H[1]? = some (.row ((y :: acc).map enc2N) 2 true) → exp expFuel H (.ref 1 0 (acc.length + 1) (acc.length + 1)) = some (.lst ((y :: acc).map enc2N)) := fun H hH => exp_full hH (by simp) (by
          intro c hc v hv
          obtain ⟨x, _, rfl⟩ := List.mem_map.1 hc
          exact enc2N_plain x v hv)
        have hrx : ∀ H : List Mem, H[1]? = some (.row ((y :: acc).map enc2N) 2 true) → rch expFuel H (.ref 1 0 (acc.length + 1) (acc.length + 1)) = [1] := fun H hH => rch_full hH (by
          intro c hc v hv
          obtain ⟨x, _, rfl⟩ := List.mem_map.1 hc
          obtain ⟨k, rfl⟩ := enc2N_int x v hv
          exact ⟨_, _, rfl⟩) (by simp)
        have hex2 : ∀ H : List Mem, H[1]? = some (.row (((y :: acc).map (busE n)).map enc2N) 2 true) → exp expFuel H (.ref 1 0 (acc.length + 1) (acc.length + 1)) = some (.lst (((y :: acc).map (busE n)).map enc2N)) := fun H hH => exp_full hH (by simp) (by
          intro c hc v hv
          obtain ⟨x, _, rfl⟩ := List.mem_map.1 hc
          exact enc2N_plain x v hv)
        have hrx2 : ∀ H : List Mem, H[1]? = some (.row (((y :: acc).map (busE n)).map enc2N) 2 true) → rch expFuel H (.ref 1 0 (acc.length + 1) (acc.length + 1)) = [1] := fun H hH => rch_full hH (by
          intro c hc v hv
          obtain ⟨x, _, rfl⟩ := List.mem_map.1 hc
          obtain ⟨k, rfl⟩ := enc2N_int x v hv
          exact ⟨_, _, rfl⟩) (by simp)
        have hlr := fun H id i n m => len_ref (P := Try.prog) (H := H) slZ22 id i n m
        have fS := flatG enc2N_no (y :: acc) 2 true
        simp only [List.length_cons] at hll'
        simp only [outG, List.map_cons] at hs1 hs2 hex hrx hex2 hrx2 fS
        have hml' : ((acc.map (busE n)).length + 1) = acc.length + 1 := by rw [List.length_map]
        cases o1 with
        | true =>
          cases o2 with
          | true =>
            simp only [Bool.false_eq_true, if_true, if_false] at hp hj
            obtain ⟨c1, c2, c3, c4, c5, c6, c7⟩ := (outS_sl t2).ids
            refine rn_rule (fn := Try.f8) (code := bodyOf Try.f8) ok8 Try.func8 (by kernel_rfl) (Nat.le_of_ble_eq_true (by kernel_rfl)) ?_
            simp (maxSteps := 2000000) (decide := true) (implicitDefEqProofs := false) only [Am.findLoop, Am.loopOf, Am.bodyOf, Am.firstReg, Nat.beq, cond_true, cond_false, Am.splice, Am.walkW, Am.stdW, id, reduceCtorEq, Nat.reduceAdd, Nat.reduceSub, Nat.reduceMul, List.forall_mem_cons, List.forall_mem_nil, false_implies, implies_true, Try.f8, factsOf8, hfact, hp, hj, hge, hne, hnr, n0e, n0r, ha, hb, hwd, l0, l1, h8, hsw, hcl, hs1, hrb, pa, pb, hex, hrx, hlr, accG, accGH, exp40_func, rch40_func, exp39_box, rch39_box, freeze_nil, freeze_cons, freeze1_O, frzO_row, nm1, eq1, g1, r1, x1, y1]
            simp only [holds_bind]
            refine (law_edges n q0 q1 q2 q3 q4 q5 hq hv (outG encS t2) t2 (outS_sl t2) 0 (plN n a) (plN n b) (0, []) _ ⟨Nat.zero_le _, rfl⟩ ?_).mono ?_
            · show maskK (hints.keep 8 19) _ _ = _
              simp (decide := true) (implicitDefEqProofs := false) only [Am.findLoop, Am.loopOf, Am.bodyOf, Am.firstReg, Nat.beq, cond_true, cond_false, Am.splice, Am.walkW, Am.stdW, id, reduceCtorEq, Nat.reduceAdd, Nat.reduceSub, Nat.reduceMul, List.forall_mem_cons, List.forall_mem_nil, false_implies, implies_true, Try.f8, factsOf8, keep8_19, canonLs, hz, hll', rowN, accG, accGH, fN, fS, c1, c2, c3, c4, c5, c6, c7, d1, d2, d3, d4, d5, d6, d7, Am.compactK, Am.idsT, Am.closeStep, Am.keepW, Am.kstdW]
              try rfl
            · rintro ⟨e, s'⟩ ⟨h5, h6⟩
              cases h5
              rw [keepB8_0] at h6
              simp only [List.drop_zero, List.nil_append, hz] at h6
              simp (maxSteps := 2000000) (decide := true) (implicitDefEqProofs := false) only [Am.findLoop, Am.loopOf, Am.bodyOf, Am.firstReg, Nat.beq, cond_true, cond_false, Am.splice, Am.walkW, Am.stdW, id, reduceCtorEq, Nat.reduceAdd, Nat.reduceSub, Nat.reduceMul, List.forall_mem_cons, List.forall_mem_nil, false_implies, implies_true, Try.f8, factsOf8, h6, outLs, rowN, accG, accGH, List.map_cons, List.map_nil, List.length_map, hmo, ib, ic, hs2, hclx, hex2, hrx2, nm2, eq2, g2, r2, x2, y2, hne, hnr, freeze_nil, freeze_cons, freeze1_O, frzO_row, ob, or_, exp40_ref, exp39_ref, exp39_str, exp39_bool, exp39_int, exp39_lst, exp39_box, exp38_str, exp38_int, rowC_row, rch40_ref, rch39_ref, rch39_str, rch39_bool, rch39_int, rch38_str, rch38_int, rchO_row, exp40_func, exp40_ptr, exp39_ptr, ptrC_row, rch40_func, rch40_ptr, rch39_ptr, rchP_row, freeze_cons, freeze1_O, frzO_row, Option.getD_some, e38, r38]
          | false =>
            simp only [Bool.false_eq_true, if_true, if_false] at hp hj
            refine rn_rule (fn := Try.f8) (code := bodyOf Try.f8) ok8 Try.func8 (by kernel_rfl) (Nat.le_of_ble_eq_true (by kernel_rfl)) ?_
            simp (maxSteps := 2000000) (decide := true) (implicitDefEqProofs := false) only [Am.findLoop, Am.loopOf, Am.bodyOf, Am.firstReg, Nat.beq, cond_true, cond_false, Am.splice, Am.walkW, Am.stdW, id, reduceCtorEq, Nat.reduceAdd, Nat.reduceSub, Nat.reduceMul, List.forall_mem_cons, List.forall_mem_nil, false_implies, implies_true, Try.f8, factsOf8, hfact, hp, hj, hge, hne, hnr, n0e, n0r, ha, hb, hwd, l0, l1, h8, hsw, hcl, hs1, hrb, pa, pb, hex, hrx, hlr, accG, accGH, exp40_func, rch40_func, exp39_box, rch39_box, freeze_nil, freeze_cons, freeze1_O, frzO_row, nm1, eq1, g1, r1, x1, y1]
            simp only [holds_bind]
            refine (law_edges n q0 q1 q2 q3 q4 q5 hq hv .nils [] (.inl ⟨rfl, rfl⟩) 8 (plN n a) (plN n b) (0, []) _ ⟨Nat.zero_le _, rfl⟩ ?_).mono ?_
            · show maskK (hints.keep 8 19) _ _ = _
              simp (decide := true) (implicitDefEqProofs := false) only [Am.findLoop, Am.loopOf, Am.bodyOf, Am.firstReg, Nat.beq, cond_true, cond_false, Am.splice, Am.walkW, Am.stdW, id, reduceCtorEq, Nat.reduceAdd, Nat.reduceSub, Nat.reduceMul, List.forall_mem_cons, List.forall_mem_nil, false_implies, implies_true, Try.f8, factsOf8, keep8_19, canonLs, hz, hll', rowN, accG, accGH, fN, fS, d1, d2, d3, d4, d5, d6, d7, Am.compactK, Am.idsT, Am.closeStep, Am.keepW, Am.kstdW]
              try rfl
            · rintro ⟨e, s'⟩ ⟨h5, h6⟩
              cases h5
              rw [keepB8_0] at h6
              simp only [List.drop_zero, List.nil_append, hz] at h6
              simp (maxSteps := 2000000) (decide := true) (implicitDefEqProofs := false) only [Am.findLoop, Am.loopOf, Am.bodyOf, Am.firstReg, Nat.beq, cond_true, cond_false, Am.splice, Am.walkW, Am.stdW, id, reduceCtorEq, Nat.reduceAdd, Nat.reduceSub, Nat.reduceMul, List.forall_mem_cons, List.forall_mem_nil, false_implies, implies_true, Try.f8, factsOf8, h6, outLs, rowN, accG, accGH, List.map_cons, List.map_nil, List.length_map, hmo, ib, ic, hs2, hclx, hex2, hrx2, lz, freeze_nil, freeze_cons, freeze1_O, frzO_row, ob, or_, exp40_ref, exp39_ref, exp39_str, exp39_bool, exp39_int, exp39_lst, exp39_box, exp38_str, exp38_int, rowC_row, rch40_ref, rch39_ref, rch39_str, rch39_bool, rch39_int, rch38_str, rch38_int, rchO_row, exp40_func, exp40_ptr, exp39_ptr, ptrC_row, rch40_func, rch40_ptr, rch39_ptr, rchP_row, freeze_cons, freeze1_O, frzO_row, Option.getD_some, e38, r38]
        | false =>
          cases o2 with
          | true =>
            simp only [Bool.false_eq_true, if_true, if_false] at hp hj
            obtain ⟨c1, c2, c3, c4, c5, c6, c7⟩ := (outS_sl t2).ids
            refine rn_rule (fn := Try.f8) (code := bodyOf Try.f8) ok8 Try.func8 (by kernel_rfl) (Nat.le_of_ble_eq_true (by kernel_rfl)) ?_
            simp (maxSteps := 2000000) (decide := true) (implicitDefEqProofs := false) only [Am.findLoop, Am.loopOf, Am.bodyOf, Am.firstReg, Nat.beq, cond_true, cond_false, Am.splice, Am.walkW, Am.stdW, id, reduceCtorEq, Nat.reduceAdd, Nat.reduceSub, Nat.reduceMul, List.forall_mem_cons, List.forall_mem_nil, false_implies, implies_true, Try.f8, factsOf8, hfact, hp, hj, hge, hne, hnr, n0e, n0r, ha, hb, hwd, l0, l1, h8, hsw, hcl, hs1, hrb, pa, pb, hex, hrx, hlr, accG, accGH, exp40_func, rch40_func, exp39_box, rch39_box, freeze_nil, freeze_cons, freeze1_O, frzO_row, lz]
            simp only [holds_bind]
            refine (law_edges n q0 q1 q2 q3 q4 q5 hq hv (outG encS t2) t2 (outS_sl t2) 0 (plN n a) (plN n b) (0, []) _ ⟨Nat.zero_le _, rfl⟩ ?_).mono ?_
            · show maskK (hints.keep 8 19) _ _ = _
              simp (decide := true) (implicitDefEqProofs := false) only [Am.findLoop, Am.loopOf, Am.bodyOf, Am.firstReg, Nat.beq, cond_true, cond_false, Am.splice, Am.walkW, Am.stdW, id, reduceCtorEq, Nat.reduceAdd, Nat.reduceSub, Nat.reduceMul, List.forall_mem_cons, List.forall_mem_nil, false_implies, implies_true, Try.f8, factsOf8, keep8_19, canonLs, hz, hll', rowN, accG, accGH, fN, fS, c1, c2, c3, c4, c5, c6, c7, d1, d2, d3, d4, d5, d6, d7, Am.compactK, Am.idsT, Am.closeStep, Am.keepW, Am.kstdW]
              try rfl
            · rintro ⟨e, s'⟩ ⟨h5, h6⟩
              cases h5
              rw [keepB8_0] at h6
              simp only [List.drop_zero, List.nil_append, hz] at h6
              simp (maxSteps := 2000000) (decide := true) (implicitDefEqProofs := false) only [Am.findLoop, Am.loopOf, Am.bodyOf, Am.firstReg, Nat.beq, cond_true, cond_false, Am.splice, Am.walkW, Am.stdW, id, reduceCtorEq, Nat.reduceAdd, Nat.reduceSub, Nat.reduceMul, List.forall_mem_cons, List.forall_mem_nil, false_implies, implies_true, Try.f8, factsOf8, h6, outLs, rowN, accG, accGH, List.map_cons, List.map_nil, List.length_map, hmo, ib, ic, hs2, hclx, hex2, hrx2, nm2, eq2, g2, r2, x2, y2, hne, hnr, freeze_nil, freeze_cons, freeze1_O, frzO_row, ob, or_, exp40_ref, exp39_ref, exp39_str, exp39_bool, exp39_int, exp39_lst, exp39_box, exp38_str, exp38_int, rowC_row, rch40_ref, rch39_ref, rch39_str, rch39_bool, rch39_int, rch38_str, rch38_int, rchO_row, exp40_func, exp40_ptr, exp39_ptr, ptrC_row, rch40_func, rch40_ptr, rch39_ptr, rchP_row, freeze_cons, freeze1_O, frzO_row, Option.getD_some, e38, r38]
          | false =>
            simp only [Bool.false_eq_true, if_true, if_false] at hp hj
            refine rn_rule (fn := Try.f8) (code := bodyOf Try.f8) ok8 Try.func8 (by kernel_rfl) (Nat.le_of_ble_eq_true (by kernel_rfl)) ?_
            simp (maxSteps := 2000000) (decide := true) (implicitDefEqProofs := false) only [Am.findLoop, Am.loopOf, Am.bodyOf, Am.firstReg, Nat.beq, cond_true, cond_false, Am.splice, Am.walkW, Am.stdW, id, reduceCtorEq, Nat.reduceAdd, Nat.reduceSub, Nat.reduceMul, List.forall_mem_cons, List.forall_mem_nil, false_implies, implies_true, Try.f8, factsOf8, hfact, hp, hj, hge, hne, hnr, n0e, n0r, ha, hb, hwd, l0, l1, h8, hsw, hcl, hs1, hrb, pa, pb, hex, hrx, hlr, accG, accGH, exp40_func, rch40_func, exp39_box, rch39_box, freeze_nil, freeze_cons, freeze1_O, frzO_row, lz]
            simp only [holds_bind]
            refine (law_edges n q0 q1 q2 q3 q4 q5 hq hv .nils [] (.inl ⟨rfl, rfl⟩) 8 (plN n a) (plN n b) (0, []) _ ⟨Nat.zero_le _, rfl⟩ ?_).mono ?_
            · show maskK (hints.keep 8 19) _ _ = _
              simp (decide := true) (implicitDefEqProofs := false) only [Am.findLoop, Am.loopOf, Am.bodyOf, Am.firstReg, Nat.beq, cond_true, cond_false, Am.splice, Am.walkW, Am.stdW, id, reduceCtorEq, Nat.reduceAdd, Nat.reduceSub, Nat.reduceMul, List.forall_mem_cons, List.forall_mem_nil, false_implies, implies_true, Try.f8, factsOf8, keep8_19, canonLs, hz, hll', rowN, accG, accGH, fN, fS, d1, d2, d3, d4, d5, d6, d7, Am.compactK, Am.idsT, Am.closeStep, Am.keepW, Am.kstdW]
              try rfl
            · rintro ⟨e, s'⟩ ⟨h5, h6⟩
              cases h5
              rw [keepB8_0] at h6
              simp only [List.drop_zero, List.nil_append, hz] at h6
              simp (maxSteps := 2000000) (decide := true) (implicitDefEqProofs := false) only [Am.findLoop, Am.loopOf, Am.bodyOf, Am.firstReg, Nat.beq, cond_true, cond_false, Am.splice, Am.walkW, Am.stdW, id, reduceCtorEq, Nat.reduceAdd, Nat.reduceSub, Nat.reduceMul, List.forall_mem_cons, List.forall_mem_nil, false_implies, implies_true, Try.f8, factsOf8, h6, outLs, rowN, accG, accGH, List.map_cons, List.map_nil, List.length_map, hmo, ib, ic, hs2, hclx, hex2, hrx2, lz, freeze_nil, freeze_cons, freeze1_O, frzO_row, ob, or_, exp40_ref, exp39_ref, exp39_str, exp39_bool, exp39_int, exp39_lst, exp39_box, exp38_str, exp38_int, rowC_row, rch40_ref, rch39_ref, rch39_str, rch39_bool, rch39_int, rch38_str, rch38_int, rchO_row, exp40_func, exp40_ptr, exp39_ptr, ptrC_row, rch40_func, rch40_ptr, rch39_ptr, rchP_row, freeze_cons, freeze1_O, frzO_row, Option.getD_some, e38, r38]
end Go.Proofs.Ytcclbkkgpcpikaa

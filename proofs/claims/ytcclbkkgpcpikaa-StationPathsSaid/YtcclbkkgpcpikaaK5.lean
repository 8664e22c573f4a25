import Derived.Test.YtcclbkkgpcpikaaK4
import Derived.Test.YtcclbkkgpcpikaaK1
set_option linter.unusedSimpArgs false
set_option linter.unusedVariables false
namespace Go.Proofs.Ytcclbkkgpcpikaa
open Go.Am
set_option maxRecDepth 100000
def wideB (n : Net) : Bool := decide (8 < n.nodes.length) || decide (10 < n.br.length) || decide (10 < n.sw.length)
set_option maxHeartbeats 4000000 in
theorem wide_call (n : Net) (q0 q1 q2 q3 q4 q5 : PV) (hq : NetQ n q0 q1 q2 q3 q4 q5) : pureCall hints L1 45 [.agg [q0, q1, q2, q3, q4, q5]] = some (.bool (wideB n)) := by
  refine pure_of prim45 (Holds.mono (Q := fun r => r.1 = .bool (wideB n)) ?_ fun r hr => by rw [hr]; rfl)
  have l0 := fun H => (lens hq H).1
  have l1 := fun H => (lens hq H).2.1
  have l2 := fun H => (lens hq H).2.2.1
  have k0 : decide ((8 : Int) < n.nodes.length) = decide (8 < n.nodes.length) := by rw [Bool.eq_iff_iff]; simp only [decide_eq_true_eq]; omega
  have k1 : decide ((10 : Int) < n.sw.length) = decide (10 < n.sw.length) := by rw [Bool.eq_iff_iff]; simp only [decide_eq_true_eq]; omega
  have k2 : decide ((10 : Int) < n.br.length) = decide (10 < n.br.length) := by rw [Bool.eq_iff_iff]; simp only [decide_eq_true_eq]; omega
  unfold wideB
  generalize decide (8 < n.nodes.length) = c0 at k0 ⊢
  generalize decide (10 < n.sw.length) = c1 at k1 ⊢
  generalize decide (10 < n.br.length) = c2 at k2 ⊢
  cases c0 with
  | true =>
    refine rn_rule (fn := Try.f45) (code := bodyOf Try.f45) ok45 Try.func45 (by kernel_rfl) (Nat.le_of_ble_eq_true (by kernel_rfl)) ?_
    simp (decide := true) (implicitDefEqProofs := false) only [Am.findLoop, Am.loopOf, Am.bodyOf, Am.firstReg, Nat.beq, cond_true, cond_false, Am.splice, Am.walkW, Am.stdW, id, reduceCtorEq, Nat.reduceAdd, Nat.reduceSub, Nat.reduceMul, List.forall_mem_cons, List.forall_mem_nil, false_implies, implies_true, Try.f45, factsOf45, l0, l1, l2, k0, k1, k2]
    rfl
  | false =>
    cases c2 with
    | true =>
      refine rn_rule (fn := Try.f45) (code := bodyOf Try.f45) ok45 Try.func45 (by kernel_rfl) (Nat.le_of_ble_eq_true (by kernel_rfl)) ?_
      simp (decide := true) (implicitDefEqProofs := false) only [Am.findLoop, Am.loopOf, Am.bodyOf, Am.firstReg, Nat.beq, cond_true, cond_false, Am.splice, Am.walkW, Am.stdW, id, reduceCtorEq, Nat.reduceAdd, Nat.reduceSub, Nat.reduceMul, List.forall_mem_cons, List.forall_mem_nil, false_implies, implies_true, Try.f45, factsOf45, l0, l1, l2, k0, k1, k2]
      rfl
    | false =>
      cases c1 with
      | true =>
        refine rn_rule (fn := Try.f45) (code := bodyOf Try.f45) ok45 Try.func45 (by kernel_rfl) (Nat.le_of_ble_eq_true (by kernel_rfl)) ?_
        simp (decide := true) (implicitDefEqProofs := false) only [Am.findLoop, Am.loopOf, Am.bodyOf, Am.firstReg, Nat.beq, cond_true, cond_false, Am.splice, Am.walkW, Am.stdW, id, reduceCtorEq, Nat.reduceAdd, Nat.reduceSub, Nat.reduceMul, List.forall_mem_cons, List.forall_mem_nil, false_implies, implies_true, Try.f45, factsOf45, l0, l1, l2, k0, k1, k2]
        rfl
      | false =>
        refine rn_rule (fn := Try.f45) (code := bodyOf Try.f45) ok45 Try.func45 (by kernel_rfl) (Nat.le_of_ble_eq_true (by kernel_rfl)) ?_
        simp (decide := true) (implicitDefEqProofs := false) only [Am.findLoop, Am.loopOf, Am.bodyOf, Am.firstReg, Nat.beq, cond_true, cond_false, Am.splice, Am.walkW, Am.stdW, id, reduceCtorEq, Nat.reduceAdd, Nat.reduceSub, Nat.reduceMul, List.forall_mem_cons, List.forall_mem_nil, false_implies, implies_true, Try.f45, factsOf45, l0, l1, l2, k0, k1, k2]
        rfl
/-! the switches that are open -/
def usedO (n : Net) (i : Nat) : Bool := match n.sw[i]? with
  | some x => x.opn
  | none => false
theorem clOpn_call (n : Net) (q0 q1 q2 q3 q4 q5 : PV) (hq : NetQ n q0 q1 q2 q3 q4 q5) {i : Nat} (hi : i < n.sw.length) : pureCall hints L1 50 [.int .i64 i, .box [q0, q1, q2, q3, q4, q5] 0] = some (.bool (usedO n i)) := by
  refine pure_of prim50 (Holds.mono (Q := fun r => r.1 = .bool (usedO n i)) ?_ fun r hr => by rw [hr]; rfl)
  have hix := fun H => index_sl (P := Try.prog) (H := H) hq.h1 slZ42 (k := .i64) (j := i) (by omega) (encSw_get hi) rfl
  have hu : usedO n i = n.sw[i].opn := by unfold usedO; rw [List.getElem?_eq_getElem hi]
  rw [hu]
  generalize n.sw[i] = x at hix
  simp only [encSw] at hix
  refine rn_rule (fn := Try.f50) (code := bodyOf Try.f50) ok50 Try.func50 (by kernel_rfl) (Nat.le_of_ble_eq_true (by kernel_rfl)) ?_
  simp (decide := true) (implicitDefEqProofs := false) only [Am.findLoop, Am.loopOf, Am.bodyOf, Am.firstReg, Nat.beq, cond_true, cond_false, Am.splice, Am.walkW, Am.stdW, id, reduceCtorEq, Nat.reduceAdd, Nat.reduceSub, Nat.reduceMul, List.forall_mem_cons, List.forall_mem_nil, false_implies, implies_true, Try.f50, factsOf50, hix]
theorem clo_opn (n : Net) (q0 q1 q2 q3 q4 q5 : PV) (hq : NetQ n q0 q1 q2 q3 q4 q5) {k : Nat} (hk : k = n.sw.length) : Clo 50 [.box [q0, q1, q2, q3, q4, q5] 0] (usedO n) k :=
  ⟨opn50, imp50, mem50, rfl, rfl, fun H => rfl, fun H => rfl, fun H => rfl, fun j hj => clOpn_call n q0 q1 q2 q3 q4 q5 hq (by rwa [hk] at hj)⟩
/-! the law's edges between buses -/
def busE (n : Net) (x : Nat × Nat) : Nat × Nat := ((busF n).getD x.1 0, (busF n).getD x.2 0)
noncomputable def canonLs (n : Net) (q0 q1 q2 q3 q4 q5 v9 : PV) (e10 : Int) (pa pb : Nat) (acc : List (Nat × Nat)) (i : Nat) : St :=
  match acc with
  | [] => ⟨[(3, .ptr 0 0 0), (9, v9), (10, .int .i64 e10), (12, .int .i64 pa), (13, .int .i64 pb), (16, outN (busF n)), (17, .nils), (130, accG 1 (swL n)), (131, .int .i64 n.sw.length), (132, .int .i64 i)], rowN q0 q1 q2 q3 q4 q5 :: accGH enc2N 2 (swL n)⟩
  | y :: r => ⟨[(3, .ptr 0 0 0), (9, v9), (10, .int .i64 e10), (12, .int .i64 pa), (13, .int .i64 pb), (16, outN (busF n)), (17, accG 1 (y :: r)), (130, accG 2 (swL n)), (131, .int .i64 n.sw.length), (132, .int .i64 i)], rowN q0 q1 q2 q3 q4 q5 :: (accGH enc2N 2 (y :: r) ++ accGH enc2N 2 (swL n))⟩
noncomputable def outLs (n : Net) (q0 q1 q2 q3 q4 q5 v9 : PV) (e10 : Int) (pa pb : Nat) (acc : List (Nat × Nat)) : St :=
  ⟨[(3, .ptr 0 0 0), (9, v9), (10, .int .i64 e10), (12, .int .i64 pa), (13, .int .i64 pb), (16, outN (busF n)), (17, accG 1 acc)], rowN q0 q1 q2 q3 q4 q5 :: accGH enc2N 2 acc⟩
def postLs (n : Net) (q0 q1 q2 q3 q4 q5 v9 : PV) (e10 : Int) (pa pb : Nat) (full : List (Nat × Nat)) (r : Ex × St) : Prop := r.1 = .exit 0 ∧ maskK (hints.keepB 8 0) ⟨8, 0, 185⟩ r.2 = some (outLs n q0 q1 q2 q3 q4 q5 v9 e10 pa pb full)
set_option maxHeartbeats 16000000 in
theorem law_edges (n : Net) (q0 q1 q2 q3 q4 q5 : PV) (hq : NetQ n q0 q1 q2 q3 q4 q5) (hv : VNet n) (v9 : PV) (ns : List ByteArray) (h9 : Sl v9 (ns.map encS)) (e10 : Int) (pa pb : Nat) : ∀ (p : Nat × List (Nat × Nat)) (t : St), (p.1 ≤ n.sw.length ∧ p.2.length = p.1) →
    maskK (hints.keep 8 (firstReg (loopOf Try.f8 19))) ⟨8, 0, 185⟩ t = some (canonLs n q0 q1 q2 q3 q4 q5 v9 e10 pa pb p.2 p.1) →
    Holds (L1.ex ⟨8, 0, 185⟩ (.loop (loopOf Try.f8 19)) t) (postLs n q0 q1 q2 q3 q4 q5 v9 e10 pa pb (p.2 ++ ((swL n).drop p.1).map (busE n))) := by
  refine loop_rule (σ := Nat × List (Nat × Nat)) (c := ⟨8, 0, 185⟩) (b := loopOf Try.f8 19) (fun p => canonLs n q0 q1 q2 q3 q4 q5 v9 e10 pa pb p.2 p.1) (fun p => p.1 ≤ n.sw.length ∧ p.2.length = p.1) (fun p => n.sw.length - p.1) _ ?_
  rintro ⟨i, acc⟩ ⟨hi, hacc⟩
  simp only at hi hacc
  have hlr := fun H id i n m => len_ref (P := Try.prog) (H := H) slZ22 id i n m
  have hls := hv.ls
  have hll : (swL n).length = n.sw.length := by rw [swL, List.length_map]
  have hok := swL_ok hv
  have fN := hq.no
  unfold rowN at fN
  have fS := flatG enc2N_no (swL n) 2 true
  obtain ⟨a1, a2, a3, a4, a5, a6, a7⟩ := h9.ids
  obtain ⟨b1, b2, b3, b4, b5, b6, b7⟩ := (outN_sl' (busF n)).ids
  by_cases hlt : i < n.sw.length
  · have hLi : i < (swL n).length := by omega
    have hoe := hok _ (List.getElem_mem hLi)
    have hx : (swL n)[i]? = some (swL n)[i] := List.getElem?_eq_getElem hLi
    have hdr : ((swL n).drop i).map (busE n) = busE n (swL n)[i] :: ((swL n).drop (i + 1)).map (busE n) := by rw [List.drop_eq_getElem_cons hLi, List.map_cons]
    rw [hdr]
    generalize (swL n)[i] = x at hx hoe
    have hg : ((swL n).map enc2N)[i]? = some [.int .i64 x.1, .int .i64 x.2] := by rw [List.getElem?_map, hx]; rfl
    obtain ⟨u, v⟩ := x
    simp only at hoe hg
    have hlt' : decide ((i : Int) < n.sw.length) = true := decide_eq_true (by omega)
    have hw : IntKind.i64.wrap ((i : Int) + 1) = ((i + 1 : Nat) : Int) := wrap64 (by omega) (by omega)
    have hBl := (bus_num hv).1
    have ib := fun H => index_sl (P := Try.prog) (H := H) (outN_sl' (busF n)) slZ24 (k := .i64) (j := u) (by omega) (by rw [Int.toNat_natCast]; exact getN (by omega : u < (busF n).length)) rfl
    have ic := fun H => index_sl (P := Try.prog) (H := H) (outN_sl' (busF n)) slZ24 (k := .i64) (j := v) (by omega) (by rw [Int.toNat_natCast]; exact getN (by omega : v < (busF n).length)) rfl
    have hbp : busE n (u, v) = ((busF n)[u]'(by omega), (busF n)[v]'(by omega)) := by unfold busE; rw [getD_get (by omega : u < _), getD_get (by omega : v < _)]
    rw [hbp]
    generalize (busF n)[u]'(by omega) = bu at ib
    generalize (busF n)[v]'(by omega) = bv at ic
    have bA := fun ps => build_array (P := Try.prog) arrOf29 ps
    obtain ⟨z, zs, hzs⟩ : ∃ z zs, swL n = z :: zs := by
      cases h : swL n with
      | nil => rw [h] at hLi; exact absurd hLi (by simp)
      | cons z zs => exact ⟨z, zs, rfl⟩
    rw [hzs] at hg fS hll
    have hik : (i : Int) < ((zs.length + 1 : Nat) : Int) := by simp only [List.length_cons] at hll; omega
    simp only [List.map_cons] at hg fS
    cases acc with
    | nil =>
      have f1 : flatM (.row [[.int .i64 (bu : Nat), .int .i64 (bv : Nat)]] 2 true) = true := flatG enc2N_no [(bu, bv)] 2 true
      simp (decide := true) (implicitDefEqProofs := false) only [Am.findLoop, Am.loopOf, Am.bodyOf, Am.firstReg, Nat.beq, cond_true, cond_false, Am.splice, Am.walkW, Am.stdW, id, reduceCtorEq, Nat.reduceAdd, Nat.reduceSub, Nat.reduceMul, List.forall_mem_cons, List.forall_mem_nil, false_implies, implies_true, Try.f8, factsOf8, canonLs, hzs, rowN, accG, accGH, hlr, hg, hik, hlt', hw, ib, ic, bA, fillAgg, fN, fS, f1, appS_nil, List.replicate_succ, List.replicate_zero, buildSliceM, fillRow, appendF, appendH, src_lst, src_ref, elemsO_row, headOk_one, Nat.le_refl, keep8_19, a1, a2, a3, a4, a5, a6, a7, b1, b2, b3, b4, b5, b6, b7, Am.compactK, Am.idsT, Am.closeStep, Am.keepW, Am.kstdW]
      exact ⟨(i + 1, [(bu, bv)]), by simp only [canonLs, hzs, rowN, accG, accGH, List.map_cons, List.cons_append, List.nil_append, List.map_nil, List.length_cons, List.length_nil]; rfl, ⟨hlt, by simp only [List.length_cons, List.length_nil] at hacc ⊢; omega⟩, by simp only; omega, fun r hr => hr⟩
    | cons y acc =>
      have f1 := flatG enc2N_no (y :: acc) 2 true
      have f2 := flatG enc2N_no (y :: acc ++ [(bu, bv)]) 2 true
      have hap : ∀ H : List Mem, H[1]? = some (.row ((y :: acc).map enc2N) 2 true) → appendS H 2 16 (.ref 1 0 (acc.length + 1) (acc.length + 1)) [[.int .i64 (bu : Nat), .int .i64 (bv : Nat)]] = some (.ref H.length 0 (acc.length + 1 + 1) (acc.length + 1 + 1), H.set 1 .dead ++ [.row ((y :: acc ++ [(bu, bv)]).map enc2N) 2 true]) := by
        intro H hH
        rw [List.map_append]
        exact appS_full hH (by simp) (by simp only [List.length_cons] at hacc; omega) _
      simp only [List.map_cons, List.cons_append] at f1 f2 hap
      have hnx : ∀ r, postLs n q0 q1 q2 q3 q4 q5 v9 e10 pa pb (y :: acc ++ [(bu, bv)] ++ ((z :: zs).drop (i + 1)).map (busE n)) r → postLs n q0 q1 q2 q3 q4 q5 v9 e10 pa pb (y :: (acc ++ (bu, bv) :: (zs.drop i).map (busE n))) r := fun r hr => by simpa using hr
      simp (decide := true) (implicitDefEqProofs := false) only [Am.findLoop, Am.loopOf, Am.bodyOf, Am.firstReg, Nat.beq, cond_true, cond_false, Am.splice, Am.walkW, Am.stdW, id, reduceCtorEq, Nat.reduceAdd, Nat.reduceSub, Nat.reduceMul, List.forall_mem_cons, List.forall_mem_nil, false_implies, implies_true, Try.f8, factsOf8, canonLs, hzs, rowN, accG, accGH, hlr, hg, hik, hlt', hw, ib, ic, bA, fillAgg, fN, fS, f1, f2, hap, List.replicate_succ, List.replicate_zero, buildSliceM, fillRow, appendF, appendH, src_lst, src_ref, elemsO_row, headOk_one, Nat.le_refl, keep8_19, a1, a2, a3, a4, a5, a6, a7, b1, b2, b3, b4, b5, b6, b7, Am.compactK, Am.idsT, Am.closeStep, Am.keepW, Am.kstdW]
      exact ⟨(i + 1, y :: acc ++ [(bu, bv)]), by simp only [canonLs, hzs, rowN, accG, accGH, List.map_cons, List.cons_append, List.nil_append, List.map_nil, List.length_cons, List.length_nil, List.length_append], ⟨hlt, by simp only [List.length_cons, List.length_append, List.length_nil] at hacc ⊢; omega⟩, by simp only; omega, hnx⟩
  · have hlt' : decide ((i : Int) < n.sw.length) = false := decide_eq_false (by omega)
    rw [List.drop_eq_nil_of_le (by omega), List.map_nil, List.append_nil]
    cases acc with
    | nil =>
      simp (decide := true) (implicitDefEqProofs := false) only [Am.findLoop, Am.loopOf, Am.bodyOf, Am.firstReg, Nat.beq, cond_true, cond_false, Am.splice, Am.walkW, Am.stdW, id, reduceCtorEq, Nat.reduceAdd, Nat.reduceSub, Nat.reduceMul, List.forall_mem_cons, List.forall_mem_nil, false_implies, implies_true, Try.f8, factsOf8, canonLs, rowN, accG, accGH, hlt']
      refine ⟨rfl, ?_⟩
      simp (decide := true) (implicitDefEqProofs := false) only [Am.findLoop, Am.loopOf, Am.bodyOf, Am.firstReg, Nat.beq, cond_true, cond_false, Am.splice, Am.walkW, Am.stdW, id, reduceCtorEq, Nat.reduceAdd, Nat.reduceSub, Nat.reduceMul, List.forall_mem_cons, List.forall_mem_nil, false_implies, implies_true, Try.f8, factsOf8, outLs, rowN, accG, accGH, fN, a1, a2, a3, a4, a5, a6, a7, b1, b2, b3, b4, b5, b6, b7, Am.compactK, Am.idsT, Am.closeStep, Am.keepW, Am.kstdW]
    | cons y acc =>
      have f1 := flatG enc2N_no (y :: acc) 2 true
      simp only [List.map_cons] at f1
      simp (decide := true) (implicitDefEqProofs := false) only [Am.findLoop, Am.loopOf, Am.bodyOf, Am.firstReg, Nat.beq, cond_true, cond_false, Am.splice, Am.walkW, Am.stdW, id, reduceCtorEq, Nat.reduceAdd, Nat.reduceSub, Nat.reduceMul, List.forall_mem_cons, List.forall_mem_nil, false_implies, implies_true, Try.f8, factsOf8, canonLs, rowN, accG, accGH, hlt']
      refine ⟨rfl, ?_⟩
      simp (decide := true) (implicitDefEqProofs := false) only [Am.findLoop, Am.loopOf, Am.bodyOf, Am.firstReg, Nat.beq, cond_true, cond_false, Am.splice, Am.walkW, Am.stdW, id, reduceCtorEq, Nat.reduceAdd, Nat.reduceSub, Nat.reduceMul, List.forall_mem_cons, List.forall_mem_nil, false_implies, implies_true, Try.f8, factsOf8, outLs, rowN, accG, accGH, fN, f1, a1, a2, a3, a4, a5, a6, a7, b1, b2, b3, b4, b5, b6, b7, Am.compactK, Am.idsT, Am.closeStep, Am.keepW, Am.kstdW]
end Go.Proofs.Ytcclbkkgpcpikaa

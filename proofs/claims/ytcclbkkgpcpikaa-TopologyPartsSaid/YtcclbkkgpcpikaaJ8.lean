import Derived.Test.YtcclbkkgpcpikaaJ5
set_option linter.unusedSimpArgs false
set_option linter.unusedVariables false
namespace Go.Proofs.Ytcclbkkgpcpikaa
open Go.Am
set_option maxRecDepth 100000
def isAt (n : Net) (s : ByteArray) : Nat := (isleF n).getD (bAt n s) 0
def mostI (n : Net) : Nat := mostF 0 (isleF n)
theorem getD_get {l : List Nat} {i : Nat} (h : i < l.length) : l.getD i 0 = l[i] := by
  rw [List.getD_eq_getElem?_getD, List.getElem?_eq_getElem h]; rfl
theorem setTr' (r : List Bool) (i : Nat) (x : Bool) : (r.map encT).set i [.bool x] = (r.set i x).map encT := setTr r i x
set_option maxHeartbeats 8000000 in
theorem liveC_run (n : Net) (q0 q1 q2 q3 q4 q5 : PV) (hq : NetQ n q0 q1 q2 q3 q4 q5) (hv : VNet n) (s : ByteArray) (hs : memS s n.nodes = true) (H : List Mem) (a b c k m : Nat) (bl : List Bool) (hbl : bl.length = m) (hm : isAt n s < m)
    (ha : H[a]? = some (.row [[.ref k 0 m m]] 1 true)) (hb : H[b]? = some (.row [[.lst ((busF n).map encN), .lst ((isleF n).map encN)]] 2 true)) (hc : H[c]? = some (rowN q0 q1 q2 q3 q4 q5)) (hk : H[k]? = some (.row (bl.map encT) 1 true)) :
    Holds (L1.rn 77 [.str s, .ptr a 0 0, .ptr b 0 0, .ptr c 0 0] H) (fun r => r = (.tup [], H.set k (.row ((bl.set (isAt n s) true).map encT) 1 true))) := by
  unfold rowN at hc
  have hln : n.nodes.length ≤ maxLen := by have := hv.ln; unfold maxLen; omega
  have pa := index_call q0 n.nodes hq.h0 s hln
  rw [(plN_ok hs).1] at pa
  have hp := (plN_ok hs).2
  have n0e := fun H => hq.h0.plain.exp (H := H)
  have n0r := fun H => hq.h0.rch (H := H)
  have hBl := (bus_num hv).1
  have hIl := (isle_num hv).1
  have hbm : bAt n s < manyF n := bus_lt hv hp
  have ib : ∀ H, indexAddrPV Try.prog H 24 (.lst ((busF n).map encN)) (.int .i64 (plN n s : Nat)) = some (.box [.int .i64 (bAt n s : Nat)] 0) := by
    intro H
    have e : bAt n s = (busF n)[plN n s]'(by omega) := getD_get (by omega)
    rw [e]
    exact index_sl (.inr rfl : Sl (.lst ((busF n).map encN)) _) slZ24 (by omega) (by rw [Int.toNat_natCast]; exact getN (by omega)) rfl
  have ii : ∀ H, indexAddrPV Try.prog H 24 (.lst ((isleF n).map encN)) (.int .i64 (bAt n s : Nat)) = some (.box [.int .i64 (isAt n s : Nat)] 0) := by
    intro H
    have e : isAt n s = (isleF n)[bAt n s]'(by omega) := getD_get (by omega)
    rw [e]
    exact index_sl (.inr rfl : Sl (.lst ((isleF n).map encN)) _) slZ24 (by omega) (by rw [Int.toNat_natCast]; exact getN (by omega)) rfl
  generalize bAt n s = u at ib ii
  generalize isAt n s = x at ii hm
  generalize plN n s = p at pa ib
  have hxm : (x : Int) < (m : Int) := by omega
  have hgx := getT (r := bl) (i := x) (by omega)
  have one0 : oneOrTup [] = .tup [] := rfl
  refine rn_rule (fn := Try.f77) (code := bodyOf Try.f77) ok77 Try.func77 (by kernel_rfl) (Nat.le_of_ble_eq_true (by kernel_rfl)) ?_
  simp (decide := true) (implicitDefEqProofs := false) only [Am.findLoop, Am.loopOf, Am.bodyOf, Am.firstReg, Nat.beq, cond_true, cond_false, Am.splice, Am.walkW, Am.stdW, id, reduceCtorEq, Nat.reduceAdd, Nat.reduceSub, Nat.reduceMul, List.forall_mem_cons, List.forall_mem_nil, false_implies, implies_true, Try.f77, factsOf77, ha, hb, hc, hk, pa, n0e, n0r, ib, ii, hxm, hgx, setTr', one0]
def markL (n : Net) : List ByteArray → List Bool → List Bool
  | [], b => b
  | s :: r, b => markL n r (b.set (isAt n s) true)
noncomputable def rowB (b : List Bool) : Mem := .row (b.map encT) 1 true
noncomputable def topR (n : Net) : Mem := .row [[.lst ((busF n).map encN), .lst ((isleF n).map encN)]] 2 true
noncomputable def canonL13 (n : Net) (q0 q1 q2 q3 q4 q5 : PV) (m len i : Nat) (b : List Bool) : St :=
  ⟨[(1, .ptr 0 0 0), (9, .ptr 1 0 0), (10, .func 77 [] [.ptr 1 0 0, .ptr 2 0 0, .ptr 0 0 0]), (39, q3), (40, .int .i64 len), (41, .int .i64 i)], [rowN q0 q1 q2 q3 q4 q5, .row [[.ref 3 0 m m]] 1 true, topR n, rowB b]⟩
def postL13 (n : Net) (q0 q1 q2 q3 q4 q5 : PV) (m : Nat) (b : List Bool) (r : Ex × St) : Prop := r.1 = .exit 2 ∧ maskK (hints.keepB 30 2) ⟨30, 0, 63⟩ r.2 = some ⟨[(1, .ptr 0 0 0), (9, .ptr 1 0 0), (10, .func 77 [] [.ptr 1 0 0, .ptr 2 0 0, .ptr 0 0 0])], [rowN q0 q1 q2 q3 q4 q5, .row [[.ref 3 0 m m]] 1 true, topR n, rowB b]⟩
set_option maxHeartbeats 8000000 in
theorem live_gens (n : Net) (q0 q1 q2 q3 q4 q5 : PV) (hq : NetQ n q0 q1 q2 q3 q4 q5) (hv : VNet n) (m : Nat) (hm : ∀ s, memS s n.nodes = true → isAt n s < m) : ∀ (a : Nat × List Bool) (t : St), (a.1 ≤ n.gn.length ∧ a.2.length = m) →
    maskK (hints.keep 30 (firstReg (loopOf Try.f30 13))) ⟨30, 0, 63⟩ t = some (canonL13 n q0 q1 q2 q3 q4 q5 m n.gn.length a.1 a.2) →
    Holds (L1.ex ⟨30, 0, 63⟩ (.loop (loopOf Try.f30 13)) t) (postL13 n q0 q1 q2 q3 q4 q5 m (markL n ((n.gn.drop a.1).map (·.node)) a.2)) := by
  refine loop_rule (σ := Nat × List Bool) (c := ⟨30, 0, 63⟩) (b := loopOf Try.f30 13) (fun a => canonL13 n q0 q1 q2 q3 q4 q5 m n.gn.length a.1 a.2) (fun a => a.1 ≤ n.gn.length ∧ a.2.length = m) (fun a => n.gn.length - a.1) _ ?_
  rintro ⟨i, b⟩ ⟨hi, hb⟩
  simp only at hi hb
  have hlg := hv.lg
  have fN := hq.no
  unfold rowN at fN
  have m0 : flatM (.row [[PV.ref 3 0 m m]] 1 true) = false := rfl
  have f2 : flatM (.row [[PV.lst ((busF n).map encN), .lst ((isleF n).map encN)]] 2 true) = true := rfl
  have f3 := flatT b
  unfold rowT at f3
  obtain ⟨b1, b2, b3, b4, b5, b6, b7⟩ := hq.h3.ids
  by_cases hlt : i < n.gn.length
  · have hix := fun H => index_sl (P := Try.prog) (H := H) hq.h3 slZ44 (k := .i64) (j := i) (by omega) (encGn_get hlt) rfl
    have hlt' : decide ((i : Int) < n.gn.length) = true := decide_eq_true (by omega)
    have hw : IntKind.i64.wrap ((i : Int) + 1) = ((i + 1 : Nat) : Int) := wrap64 (by omega) (by omega)
    have hmem := hv.gn _ (List.getElem_mem hlt)
    have hdr : markL n ((n.gn.drop i).map (·.node)) b = markL n ((n.gn.drop (i + 1)).map (·.node)) (b.set (isAt n n.gn[i].node) true) := by rw [List.drop_eq_getElem_cons hlt]; rfl
    rw [hdr]
    generalize n.gn[i] = x at hix hmem
    have hmx := hm x.node hmem
    obtain ⟨r, hr, hr2⟩ := liveC_run n q0 q1 q2 q3 q4 q5 hq hv x.node hmem [rowN q0 q1 q2 q3 q4 q5, .row [[.ref 3 0 m m]] 1 true, topR n, rowB b, .row [encGn x] 5 true] 1 2 0 3 m b hb hmx rfl rfl rfl rfl
    subst hr2
    have f4 := flatT (b.set (isAt n x.node) true)
    unfold rowT at f4
    have hbs : (b.set (isAt n x.node) true).length = m := by rw [List.length_set]; exact hb
    generalize b.set (isAt n x.node) true = b' at hr f4 hbs
    simp only [rowN, topR, rowB, encGn, List.set_cons_succ, List.set_cons_zero] at hr
    simp only [encGn] at hix
    simp (decide := true) (implicitDefEqProofs := false) only [Am.findLoop, Am.loopOf, Am.bodyOf, Am.firstReg, Nat.beq, cond_true, cond_false, Am.splice, Am.walkW, Am.stdW, id, reduceCtorEq, Nat.reduceAdd, Nat.reduceSub, Nat.reduceMul, List.forall_mem_cons, List.forall_mem_nil, false_implies, implies_true, Try.f30, factsOf30, canonL13, rowN, topR, rowB, hix, hlt', hw, hr, opn77, fN, m0, f2, f3, f4, keep30_13, b1, b2, b3, b4, b5, b6, b7, Am.compactK, Am.idsT, Am.closeStep, Am.keepW, Am.kstdW]
    exact ⟨(i + 1, b'), rfl, ⟨hlt, hbs⟩, by simp only; omega, fun r hr => hr⟩
  · have hlt' : decide ((i : Int) < n.gn.length) = false := decide_eq_false (by omega)
    rw [List.drop_eq_nil_of_le (by omega)]
    simp (decide := true) (implicitDefEqProofs := false) only [Am.findLoop, Am.loopOf, Am.bodyOf, Am.firstReg, Nat.beq, cond_true, cond_false, Am.splice, Am.walkW, Am.stdW, id, reduceCtorEq, Nat.reduceAdd, Nat.reduceSub, Nat.reduceMul, List.forall_mem_cons, List.forall_mem_nil, false_implies, implies_true, Try.f30, factsOf30, canonL13, rowN, topR, rowB, hlt', b7]
    refine ⟨rfl, ?_⟩
    simp (decide := true) (implicitDefEqProofs := false) only [Am.findLoop, Am.loopOf, Am.bodyOf, Am.firstReg, Nat.beq, cond_true, cond_false, Am.splice, Am.walkW, Am.stdW, id, reduceCtorEq, Nat.reduceAdd, Nat.reduceSub, Nat.reduceMul, List.forall_mem_cons, List.forall_mem_nil, false_implies, implies_true, Try.f30, factsOf30, markL, rowN, topR, rowB, fN, m0, f2, f3, b1, b2, b3, b7, Am.compactK, Am.idsT, Am.closeStep, Am.keepW, Am.kstdW]
noncomputable def canonL18 (n : Net) (q0 q1 q2 q3 q4 q5 : PV) (m len i : Nat) (b : List Bool) : St :=
  ⟨[(9, .ptr 0 0 0), (10, .func 77 [] [.ptr 0 0 0, .ptr 1 0 0, .ptr 2 0 0]), (51, q5), (52, .int .i64 len), (53, .int .i64 i)], [.row [[.ref 3 0 m m]] 1 true, topR n, rowN q0 q1 q2 q3 q4 q5, rowB b]⟩
def postL18 (m : Nat) (b : List Bool) (r : Ex × St) : Prop := r.1 = .exit 4 ∧ maskK (hints.keepB 30 4) ⟨30, 0, 63⟩ r.2 = some ⟨[(9, .ptr 0 0 0)], [.row [[.ref 1 0 m m]] 1 true, rowB b]⟩
set_option maxHeartbeats 8000000 in
theorem live_stores (n : Net) (q0 q1 q2 q3 q4 q5 : PV) (hq : NetQ n q0 q1 q2 q3 q4 q5) (hv : VNet n) (m : Nat) (hm : ∀ s, memS s n.nodes = true → isAt n s < m) : ∀ (a : Nat × List Bool) (t : St), (a.1 ≤ n.so.length ∧ a.2.length = m) →
    maskK (hints.keep 30 (firstReg (loopOf Try.f30 18))) ⟨30, 0, 63⟩ t = some (canonL18 n q0 q1 q2 q3 q4 q5 m n.so.length a.1 a.2) →
    Holds (L1.ex ⟨30, 0, 63⟩ (.loop (loopOf Try.f30 18)) t) (postL18 m (markL n ((n.so.drop a.1).map (·.node)) a.2)) := by
  refine loop_rule (σ := Nat × List Bool) (c := ⟨30, 0, 63⟩) (b := loopOf Try.f30 18) (fun a => canonL18 n q0 q1 q2 q3 q4 q5 m n.so.length a.1 a.2) (fun a => a.1 ≤ n.so.length ∧ a.2.length = m) (fun a => n.so.length - a.1) _ ?_
  rintro ⟨i, b⟩ ⟨hi, hb⟩
  simp only at hi hb
  have hlo := hv.lo
  have fN := hq.no
  unfold rowN at fN
  have m0 : flatM (.row [[PV.ref 3 0 m m]] 1 true) = false := rfl
  have f2 : flatM (.row [[PV.lst ((busF n).map encN), .lst ((isleF n).map encN)]] 2 true) = true := rfl
  have f3 := flatT b
  unfold rowT at f3
  obtain ⟨b1, b2, b3, b4, b5, b6, b7⟩ := hq.h5.ids
  by_cases hlt : i < n.so.length
  · have hget : (n.so.map encSo)[(i : Int).toNat]? = some (encSo n.so[i]) := by simp [hlt]
    have hix := fun H => index_sl (P := Try.prog) (H := H) hq.h5 slZ46 (k := .i64) (j := i) (by omega) hget rfl
    have hlt' : decide ((i : Int) < n.so.length) = true := decide_eq_true (by omega)
    have hw : IntKind.i64.wrap ((i : Int) + 1) = ((i + 1 : Nat) : Int) := wrap64 (by omega) (by omega)
    have hmem := hv.so _ (List.getElem_mem hlt)
    have hdr : markL n ((n.so.drop i).map (·.node)) b = markL n ((n.so.drop (i + 1)).map (·.node)) (b.set (isAt n n.so[i].node) true) := by rw [List.drop_eq_getElem_cons hlt]; rfl
    rw [hdr]
    generalize n.so[i] = x at hix hmem
    have hmx := hm x.node hmem
    obtain ⟨r, hr, hr2⟩ := liveC_run n q0 q1 q2 q3 q4 q5 hq hv x.node hmem [.row [[.ref 3 0 m m]] 1 true, topR n, rowN q0 q1 q2 q3 q4 q5, rowB b, .row [encSo x] 5 true] 0 1 2 3 m b hb hmx rfl rfl rfl rfl
    subst hr2
    have f4 := flatT (b.set (isAt n x.node) true)
    unfold rowT at f4
    have hbs : (b.set (isAt n x.node) true).length = m := by rw [List.length_set]; exact hb
    generalize b.set (isAt n x.node) true = b' at hr f4 hbs
    simp only [rowN, topR, rowB, encSo, List.set_cons_succ, List.set_cons_zero] at hr
    simp only [encSo] at hix
    simp (decide := true) (implicitDefEqProofs := false) only [Am.findLoop, Am.loopOf, Am.bodyOf, Am.firstReg, Nat.beq, cond_true, cond_false, Am.splice, Am.walkW, Am.stdW, id, reduceCtorEq, Nat.reduceAdd, Nat.reduceSub, Nat.reduceMul, List.forall_mem_cons, List.forall_mem_nil, false_implies, implies_true, Try.f30, factsOf30, canonL18, rowN, topR, rowB, hix, hlt', hw, hr, opn77, fN, m0, f2, f3, f4, keep30_18, b1, b2, b3, b4, b5, b6, b7, Am.compactK, Am.idsT, Am.closeStep, Am.keepW, Am.kstdW]
    exact ⟨(i + 1, b'), rfl, ⟨hlt, hbs⟩, by simp only; omega, fun r hr => hr⟩
  · have hlt' : decide ((i : Int) < n.so.length) = false := decide_eq_false (by omega)
    rw [List.drop_eq_nil_of_le (by omega)]
    simp (decide := true) (implicitDefEqProofs := false) only [Am.findLoop, Am.loopOf, Am.bodyOf, Am.firstReg, Nat.beq, cond_true, cond_false, Am.splice, Am.walkW, Am.stdW, id, reduceCtorEq, Nat.reduceAdd, Nat.reduceSub, Nat.reduceMul, List.forall_mem_cons, List.forall_mem_nil, false_implies, implies_true, Try.f30, factsOf30, canonL18, rowN, topR, rowB, hlt', b7]
    refine ⟨rfl, ?_⟩
    simp (decide := true) (implicitDefEqProofs := false) only [Am.findLoop, Am.loopOf, Am.bodyOf, Am.firstReg, Nat.beq, cond_true, cond_false, Am.splice, Am.walkW, Am.stdW, id, reduceCtorEq, Nat.reduceAdd, Nat.reduceSub, Nat.reduceMul, List.forall_mem_cons, List.forall_mem_nil, false_implies, implies_true, Try.f30, factsOf30, markL, rowN, topR, rowB, fN, m0, f2, f3, b1, b2, b3, b7, Am.compactK, Am.idsT, Am.closeStep, Am.keepW, Am.kstdW]
end Go.Proofs.Ytcclbkkgpcpikaa

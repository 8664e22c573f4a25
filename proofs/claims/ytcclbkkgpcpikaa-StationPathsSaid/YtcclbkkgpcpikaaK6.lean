import Derived.Test.YtcclbkkgpcpikaaK3
import Derived.Test.YtcclbkkgpcpikaaK4
set_option linter.unusedSimpArgs false
set_option linter.unusedVariables false
namespace Go.Proofs.Ytcclbkkgpcpikaa
open Go.Am
set_option maxRecDepth 100000
abbrev PE := (Nat × Nat) × Nat
def busP (n : Net) (x : PE) : PE := (((busF n).getD x.1.1 0, (busF n).getD x.1.2 0), x.2)
theorem getP1 {l : List PE} {i : Nat} {x : PE} (h : l[i]? = some x) : (l.map encP1)[i]? = some [.int .i64 x.1.1, .int .i64 x.1.2] := by rw [List.getElem?_map, h]; rfl
theorem setP1 (l : List PE) (i : Nat) (u v j : Nat) : (l.map encP1).set i [.int .i64 u, .int .i64 v] = (l.set i ((u, v), j)).map encP1 := by rw [List.map_set]; rfl
noncomputable def canonJn (n : Net) (q0 q1 q2 q3 q4 q5 : PV) (a b : ByteArray) (M L : List PE) (k i : Nat) : St :=
  ⟨[(1, .str a), (2, .str b), (3, .ptr 0 0 0), (9, .lst ((busF n).map encN)), (10, .ref 1 0 k k), (11, .ref 2 0 k k), (31, .int .i64 k), (32, .int .i64 i)], [rowN q0 q1 q2 q3 q4 q5, .row (M.map encP1) 2 true, .row (L.map encP2) 1 true]⟩
noncomputable def outJn (n : Net) (q0 q1 q2 q3 q4 q5 : PV) (a b : ByteArray) (M L : List PE) (k : Nat) : St :=
  ⟨[(1, .str a), (2, .str b), (3, .ptr 0 0 0), (9, .lst ((busF n).map encN)), (10, .ref 1 0 k k), (11, .ref 2 0 k k)], [rowN q0 q1 q2 q3 q4 q5, .row (M.map encP1) 2 true, .row (L.map encP2) 1 true]⟩
def postJn (n : Net) (q0 q1 q2 q3 q4 q5 : PV) (a b : ByteArray) (M L : List PE) (k : Nat) (r : Ex × St) : Prop := r.1 = .exit 0 ∧ maskK (hints.keepB 44 0) ⟨44, 0, 85⟩ r.2 = some (outJn n q0 q1 q2 q3 q4 q5 a b M L k)
set_option maxHeartbeats 16000000 in
theorem join_loop (n : Net) (q0 q1 q2 q3 q4 q5 : PV) (hq : NetQ n q0 q1 q2 q3 q4 q5) (hv : VNet n) (a b : ByteArray) (L : List PE) (hok : okL n.nodes.length (L.map (·.1))) (k : Nat) (hk : L.length = k) (hk0 : k ≤ 32) : ∀ (p : Nat × List PE) (t : St), (p.1 ≤ k ∧ p.2.length = k ∧ ∀ j, p.1 ≤ j → p.2[j]? = L[j]?) →
    maskK (hints.keep 44 (firstReg (loopOf Try.f44 7))) ⟨44, 0, 85⟩ t = some (canonJn n q0 q1 q2 q3 q4 q5 a b p.2 L k p.1) →
    Holds (L1.ex ⟨44, 0, 85⟩ (.loop (loopOf Try.f44 7)) t) (postJn n q0 q1 q2 q3 q4 q5 a b (p.2.take p.1 ++ (L.drop p.1).map (busP n)) L k) := by
  refine loop_rule (σ := Nat × List PE) (c := ⟨44, 0, 85⟩) (b := loopOf Try.f44 7) (fun p => canonJn n q0 q1 q2 q3 q4 q5 a b p.2 L k p.1) (fun p => p.1 ≤ k ∧ p.2.length = k ∧ ∀ j, p.1 ≤ j → p.2[j]? = L[j]?) (fun p => k - p.1) _ ?_
  rintro ⟨i, M⟩ ⟨hi, hM, hML⟩
  simp only at hi hM hML
  have hlr := fun H id i n m => len_ref (P := Try.prog) (H := H) slZ22 id i n m
  have fN := hq.no
  unfold rowN at fN
  have f1 := flatG encP1_no M 2 true
  have f2 := flatG encP2_no L 1 true
  by_cases hlt : i < k
  · have hLi : i < L.length := by omega
    have hx := hML i (Nat.le_refl i)
    rw [List.getElem?_eq_getElem hLi] at hx
    have hoe := hok L[i].1 (List.mem_map.2 ⟨L[i], List.getElem_mem hLi, rfl⟩)
    have hdr : (L.drop i).map (busP n) = busP n L[i] :: (L.drop (i + 1)).map (busP n) := by rw [List.drop_eq_getElem_cons hLi, List.map_cons]
    rw [hdr]
    generalize L[i] = x at hx hoe
    obtain ⟨⟨u, v⟩, j⟩ := x
    simp only at hoe
    have hlt' : decide ((i : Int) < (k : Nat)) = true := decide_eq_true (by omega)
    have hw : IntKind.i64.wrap ((i : Int) + 1) = ((i + 1 : Nat) : Int) := wrap64 (by omega) (by omega)
    have hik : (i : Int) < (k : Int) := by omega
    have hg := getP1 hx
    simp only at hg
    have hBl := (bus_num hv).1
    have ib := fun H => index_sl (P := Try.prog) (H := H) (.inr rfl : Sl (.lst ((busF n).map encN)) _) slZ24 (k := .i64) (j := u) (by omega) (by rw [Int.toNat_natCast]; exact getN (by omega : u < (busF n).length)) rfl
    have ic := fun H => index_sl (P := Try.prog) (H := H) (.inr rfl : Sl (.lst ((busF n).map encN)) _) slZ24 (k := .i64) (j := v) (by omega) (by rw [Int.toNat_natCast]; exact getN (by omega : v < (busF n).length)) rfl
    have hbp : busP n ((u, v), j) = (((busF n)[u]'(by omega), (busF n)[v]'(by omega)), j) := by unfold busP; rw [getD_get (by omega : u < _), getD_get (by omega : v < _)]
    rw [hbp]
    generalize (busF n)[u]'(by omega) = bu at ib
    generalize (busF n)[v]'(by omega) = bv at ic
    have bA := fun ps => build_array (P := Try.prog) arrOf29 ps
    have hs := setP1 M i bu bv j
    have f3 := flatG encP1_no (M.set i ((bu, bv), j)) 2 true
    simp (decide := true) (implicitDefEqProofs := false) only [Am.findLoop, Am.loopOf, Am.bodyOf, Am.firstReg, Nat.beq, cond_true, cond_false, Am.splice, Am.walkW, Am.stdW, id, reduceCtorEq, Nat.reduceAdd, Nat.reduceSub, Nat.reduceMul, List.forall_mem_cons, List.forall_mem_nil, false_implies, implies_true, Try.f44, factsOf44, canonJn, rowN, hlr, hlt', hw, hik, hg, ib, ic, bA, fillAgg, hs, fN, f1, f2, f3, keep44_7, Am.compactK, Am.idsT, Am.closeStep, Am.keepW, Am.kstdW]
    refine ⟨(i + 1, M.set i ((bu, bv), j)), rfl, ⟨hlt, by simpa using hM, ?_⟩, by simp only; omega, ?_⟩
    · intro c hc
      rw [List.getElem?_set_ne (by omega)]
      exact hML c (by omega)
    · intro r hr
      have e : (M.set i ((bu, bv), j)).take (i + 1) ++ (L.drop (i + 1)).map (busP n) = M.take i ++ ((bu, bv), j) :: (L.drop (i + 1)).map (busP n) := by
        rw [List.take_add_one, List.getElem?_set_self (by omega), List.take_set_of_le (by omega)]
        simp
      simp only [e] at hr
      exact hr
  · have hlt' : decide ((i : Int) < (k : Nat)) = false := decide_eq_false (by omega)
    rw [List.drop_eq_nil_of_le (by omega), List.map_nil, List.append_nil, List.take_of_length_le (show M.length ≤ i by omega)]
    simp (decide := true) (implicitDefEqProofs := false) only [Am.findLoop, Am.loopOf, Am.bodyOf, Am.firstReg, Nat.beq, cond_true, cond_false, Am.splice, Am.walkW, Am.stdW, id, reduceCtorEq, Nat.reduceAdd, Nat.reduceSub, Nat.reduceMul, List.forall_mem_cons, List.forall_mem_nil, false_implies, implies_true, Try.f44, factsOf44, canonJn, rowN, hlt']
    refine ⟨rfl, ?_⟩
    simp (decide := true) (implicitDefEqProofs := false) only [Am.findLoop, Am.loopOf, Am.bodyOf, Am.firstReg, Nat.beq, cond_true, cond_false, Am.splice, Am.walkW, Am.stdW, id, reduceCtorEq, Nat.reduceAdd, Nat.reduceSub, Nat.reduceMul, List.forall_mem_cons, List.forall_mem_nil, false_implies, implies_true, Try.f44, factsOf44, outJn, rowN, fN, f1, f2, Am.compactK, Am.idsT, Am.closeStep, Am.keepW, Am.kstdW]
noncomputable def canonJ0 (n : Net) (q0 q1 q2 q3 q4 q5 : PV) (a b : ByteArray) : St :=
  ⟨[(1, .str a), (2, .str b), (3, .ptr 0 0 0), (9, .lst ((busF n).map encN)), (10, .nils), (11, .nils), (31, .int .i64 0), (32, .int .i64 0)], [rowN q0 q1 q2 q3 q4 q5]⟩
noncomputable def outJ0 (n : Net) (q0 q1 q2 q3 q4 q5 : PV) (a b : ByteArray) : St :=
  ⟨[(1, .str a), (2, .str b), (3, .ptr 0 0 0), (9, .lst ((busF n).map encN)), (10, .nils), (11, .nils)], [rowN q0 q1 q2 q3 q4 q5]⟩
def postJ0 (n : Net) (q0 q1 q2 q3 q4 q5 : PV) (a b : ByteArray) (r : Ex × St) : Prop := r.1 = .exit 0 ∧ maskK (hints.keepB 44 0) ⟨44, 0, 85⟩ r.2 = some (outJ0 n q0 q1 q2 q3 q4 q5 a b)
set_option maxHeartbeats 4000000 in
theorem join_loop0 (n : Net) (q0 q1 q2 q3 q4 q5 : PV) (hq : NetQ n q0 q1 q2 q3 q4 q5) (a b : ByteArray) : ∀ (p : Nat) (t : St), p = 0 →
    maskK (hints.keep 44 (firstReg (loopOf Try.f44 7))) ⟨44, 0, 85⟩ t = some (canonJ0 n q0 q1 q2 q3 q4 q5 a b) →
    Holds (L1.ex ⟨44, 0, 85⟩ (.loop (loopOf Try.f44 7)) t) (postJ0 n q0 q1 q2 q3 q4 q5 a b) := by
  refine loop_rule (σ := Nat) (c := ⟨44, 0, 85⟩) (b := loopOf Try.f44 7) (fun _ => canonJ0 n q0 q1 q2 q3 q4 q5 a b) (fun p => p = 0) (fun p => p) (fun _ => postJ0 n q0 q1 q2 q3 q4 q5 a b) ?_
  intro p hp
  have fN := hq.no
  unfold rowN at fN
  have hlt' : decide ((0 : Int) < (0 : Int)) = false := rfl
  simp (decide := true) (implicitDefEqProofs := false) only [Am.findLoop, Am.loopOf, Am.bodyOf, Am.firstReg, Nat.beq, cond_true, cond_false, Am.splice, Am.walkW, Am.stdW, id, reduceCtorEq, Nat.reduceAdd, Nat.reduceSub, Nat.reduceMul, List.forall_mem_cons, List.forall_mem_nil, false_implies, implies_true, Try.f44, factsOf44, canonJ0, rowN, hlt']
  refine ⟨rfl, ?_⟩
  simp (decide := true) (implicitDefEqProofs := false) only [Am.findLoop, Am.loopOf, Am.bodyOf, Am.firstReg, Nat.beq, cond_true, cond_false, Am.splice, Am.walkW, Am.stdW, id, reduceCtorEq, Nat.reduceAdd, Nat.reduceSub, Nat.reduceMul, List.forall_mem_cons, List.forall_mem_nil, false_implies, implies_true, Try.f44, factsOf44, outJ0, rowN, fN, Am.compactK, Am.idsT, Am.closeStep, Am.keepW, Am.kstdW]
def joinL (n : Net) : List (Nat × Nat) := ((edgA n true).map (busP n)).map (·.1)
noncomputable def joinW (n : Net) (a b : ByteArray) : Bool × List Nat := wayR n.nodes.length (joinL n) ((busF n).getD (plN n a) 0) ((busF n).getD (plN n b) 0)
noncomputable def sJoinV (n : Net) (a b : ByteArray) : PV :=
  if stE n [a, b] ≠ 0 then .tup [.nils, .int .i64 (stE n [a, b])]
  else if (joinW n a b).1 = true then .tup [outG encS ((joinW n a b).2.map fun k => swNm n ((atL n true).getD k 0)), .int .i64 0]
  else .tup [.nils, .int .i64 8]
theorem joinL_ok {n : Net} (hv : VNet n) : okL n.nodes.length (joinL n) := by
  intro x hx
  obtain ⟨y, hy, rfl⟩ := List.mem_map.1 hx
  obtain ⟨z, hz, rfl⟩ := List.mem_map.1 hy
  have h := (edgA_ok hv true).1 z.1 (List.mem_map.2 ⟨z, hz, rfl⟩)
  have h1 := bus_le hv h.1
  have h2 := bus_le hv h.2
  exact ⟨Nat.lt_of_le_of_lt h1 h.1, Nat.lt_of_le_of_lt h2 h.2⟩
end Go.Proofs.Ytcclbkkgpcpikaa

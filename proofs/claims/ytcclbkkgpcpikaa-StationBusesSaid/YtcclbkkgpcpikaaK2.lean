import Derived.Test.YtcclbkkgpcpikaaK1
set_option linter.unusedSimpArgs false
set_option linter.unusedVariables false
namespace Go.Proofs.Ytcclbkkgpcpikaa
open Go.Am
set_option maxRecDepth 100000
/-! check -/
def allM (n : Net) (l : List ByteArray) : Bool := l.all fun s => memS s n.nodes
noncomputable def canonCh (q0 q1 q2 q3 q4 q5 q : PV) (len i : Nat) : St := ⟨[(2, .ptr 0 0 0), (13, q), (14, .int .i64 len), (15, .int .i64 i)], [rowN q0 q1 q2 q3 q4 q5]⟩
def postCh (b : Bool) (r : Ex × St) : Prop := match b with
  | true => r.1 = .exit 0 ∧ maskK (hints.keepB 82 0) ⟨82, 0, 25⟩ r.2 = some ⟨[], []⟩
  | false => r.1 = .ret ∧ Am.get r.2.tm 4 = some (.int .i64 6)
set_option maxHeartbeats 8000000 in
theorem scheck_loop (n : Net) (q0 q1 q2 q3 q4 q5 : PV) (hq : NetQ n q0 q1 q2 q3 q4 q5) (hln : n.nodes.length ≤ maxLen) (q : PV) (l : List ByteArray) (hl : Sl q (l.map encS)) (hll : l.length ≤ 1000) : ∀ (i : Nat) (t : St), i ≤ l.length →
    maskK (hints.keep 82 (firstReg (loopOf Try.f82 5))) ⟨82, 0, 25⟩ t = some (canonCh q0 q1 q2 q3 q4 q5 q l.length i) →
    Holds (L1.ex ⟨82, 0, 25⟩ (.loop (loopOf Try.f82 5)) t) (postCh (allM n (l.drop i))) := by
  refine loop_rule (σ := Nat) (c := ⟨82, 0, 25⟩) (b := loopOf Try.f82 5) (fun i => canonCh q0 q1 q2 q3 q4 q5 q l.length i) (fun i => i ≤ l.length) (fun i => l.length - i) _ ?_
  intro i hi
  have fN := hq.no
  unfold rowN at fN
  obtain ⟨a1, a2, a3, a4, a5, a6, a7⟩ := hl.ids
  have n0e := fun H => hq.h0.plain.exp (H := H)
  have n0r := fun H => hq.h0.rch (H := H)
  by_cases hlt : i < l.length
  · have hix := fun H => index_sl (P := Try.prog) (H := H) hl slZ41 (k := .i64) (j := i) (by omega) (encS_get hlt) rfl
    have hlt' : decide ((i : Int) < l.length) = true := decide_eq_true (by omega)
    have hw : IntKind.i64.wrap ((i : Int) + 1) = ((i + 1 : Nat) : Int) := wrap64 (by omega) (by omega)
    have hdr : allM n (l.drop i) = (memS l[i] n.nodes && allM n (l.drop (i + 1))) := by rw [List.drop_eq_getElem_cons hlt]; rfl
    rw [hdr]
    have hc := contains_call q0 n.nodes hq.h0 l[i] hln
    generalize l[i] = s at hix hc
    cases hm : memS s n.nodes with
    | true =>
      rw [hm] at hc
      rw [Bool.true_and]
      simp (decide := true) (implicitDefEqProofs := false) only [Am.findLoop, Am.loopOf, Am.bodyOf, Am.firstReg, Nat.beq, cond_true, cond_false, Am.splice, Am.walkW, Am.stdW, id, reduceCtorEq, Nat.reduceAdd, Nat.reduceSub, Nat.reduceMul, List.forall_mem_cons, List.forall_mem_nil, false_implies, implies_true, Try.f82, factsOf82, canonCh, rowN, hix, hlt', hw, hc, n0e, n0r, fN, keep82_5, a1, a2, a3, a4, a5, a6, a7, Am.compactK, Am.idsT, Am.closeStep, Am.keepW, Am.kstdW]
      exact ⟨i + 1, rfl, hlt, by omega, fun r hr => hr⟩
    | false =>
      rw [hm] at hc
      rw [Bool.false_and]
      simp (decide := true) (implicitDefEqProofs := false) only [Am.findLoop, Am.loopOf, Am.bodyOf, Am.firstReg, Nat.beq, cond_true, cond_false, Am.splice, Am.walkW, Am.stdW, id, reduceCtorEq, Nat.reduceAdd, Nat.reduceSub, Nat.reduceMul, List.forall_mem_cons, List.forall_mem_nil, false_implies, implies_true, Try.f82, factsOf82, canonCh, rowN, hix, hlt', hw, hc, n0e, n0r, fN, a7]
      exact ⟨rfl, rfl⟩
  · have hlt' : decide ((i : Int) < l.length) = false := decide_eq_false (by omega)
    rw [List.drop_eq_nil_of_le (by omega)]
    simp (decide := true) (implicitDefEqProofs := false) only [Am.findLoop, Am.loopOf, Am.bodyOf, Am.firstReg, Nat.beq, cond_true, cond_false, Am.splice, Am.walkW, Am.stdW, id, reduceCtorEq, Nat.reduceAdd, Nat.reduceSub, Nat.reduceMul, List.forall_mem_cons, List.forall_mem_nil, false_implies, implies_true, Try.f82, factsOf82, canonCh, rowN, hlt', a7]
    refine ⟨rfl, ?_⟩
    simp (decide := true) (implicitDefEqProofs := false) only [Am.findLoop, Am.loopOf, Am.bodyOf, Am.firstReg, Nat.beq, cond_true, cond_false, Am.splice, Am.walkW, Am.stdW, id, reduceCtorEq, Nat.reduceAdd, Nat.reduceSub, Nat.reduceMul, List.forall_mem_cons, List.forall_mem_nil, false_implies, implies_true, Try.f82, factsOf82, fN, Am.compactK, Am.idsT, Am.closeStep, Am.keepW, Am.kstdW]
def stE (n : Net) (l : List ByteArray) : Int := if netE n ≠ 0 then netE n else if allM n l = true then 0 else 6
set_option maxHeartbeats 8000000 in
theorem scheck_call (n : Net) (q0 q1 q2 q3 q4 q5 : PV) (hq : NetQ n q0 q1 q2 q3 q4 q5) (q : PV) (l : List ByteArray) (hl : Sl q (l.map encS)) (hll : l.length ≤ 1000) : pureCall hints L1 82 [.agg [q0, q1, q2, q3, q4, q5], q] = some (.int .i64 (stE n l)) := by
  refine pure_of prim82 (Holds.mono (Q := fun r => r.1 = .int .i64 (stE n l)) ?_ fun r hr => by rw [hr]; rfl)
  have hck := check_call n q0 q1 q2 q3 q4 q5 hq
  have hne := hq.exp
  have hnr := hq.rch
  have fN := hq.no
  unfold rowN at fN
  have hlen := fun H => len_sl (P := Try.prog) (H := H) hl slZ41
  rw [List.length_map] at hlen
  obtain ⟨a1, a2, a3, a4, a5, a6, a7⟩ := hl.ids
  by_cases h0 : netE n = 0
  · have hv := vnet h0
    have hln : n.nodes.length ≤ maxLen := by have := hv.ln; unfold maxLen; omega
    have he : stE n l = if allM n l = true then 0 else 6 := by unfold stE; rw [if_neg (by simpa using h0)]
    rw [he]
    rw [h0] at hck
    refine rn_rule (fn := Try.f82) (code := bodyOf Try.f82) ok82 Try.func82 (by kernel_rfl) (Nat.le_of_ble_eq_true (by kernel_rfl)) ?_
    simp (decide := true) (implicitDefEqProofs := false) only [Am.findLoop, Am.loopOf, Am.bodyOf, Am.firstReg, Nat.beq, cond_true, cond_false, Am.splice, Am.walkW, Am.stdW, id, reduceCtorEq, Nat.reduceAdd, Nat.reduceSub, Nat.reduceMul, List.forall_mem_cons, List.forall_mem_nil, false_implies, implies_true, Try.f82, factsOf82, hck, hne, hnr, hlen, a7]
    simp only [holds_bind]
    refine (scheck_loop n q0 q1 q2 q3 q4 q5 hq hln q l hl hll 0 _ (by omega) ?_).mono ?_
    · show maskK (hints.keep 82 5) _ _ = _
      simp (decide := true) (implicitDefEqProofs := false) only [Am.findLoop, Am.loopOf, Am.bodyOf, Am.firstReg, Nat.beq, cond_true, cond_false, Am.splice, Am.walkW, Am.stdW, id, reduceCtorEq, Nat.reduceAdd, Nat.reduceSub, Nat.reduceMul, List.forall_mem_cons, List.forall_mem_nil, false_implies, implies_true, Try.f82, factsOf82, keep82_5, canonCh, rowN, fN, a1, a2, a3, a4, a5, a6, a7, Am.compactK, Am.idsT, Am.closeStep, Am.keepW, Am.kstdW]
      rfl
    · rintro ⟨e, s'⟩ hp
      rw [List.drop_zero] at hp
      cases hb : allM n l with
      | true =>
        rw [hb] at hp
        obtain ⟨h5, h6⟩ := hp
        cases h5
        rw [keepB82_0] at h6
        simp (decide := true) (implicitDefEqProofs := false) only [Am.findLoop, Am.loopOf, Am.bodyOf, Am.firstReg, Nat.beq, cond_true, cond_false, Am.splice, Am.walkW, Am.stdW, id, reduceCtorEq, Nat.reduceAdd, Nat.reduceSub, Nat.reduceMul, List.forall_mem_cons, List.forall_mem_nil, false_implies, implies_true, Try.f82, factsOf82, h6]
      | false =>
        rw [hb] at hp
        obtain ⟨h5, h6⟩ := hp
        cases h5
        simp (decide := true) (implicitDefEqProofs := false) only [Am.findLoop, Am.loopOf, Am.bodyOf, Am.firstReg, Nat.beq, cond_true, cond_false, Am.splice, Am.walkW, Am.stdW, id, reduceCtorEq, Nat.reduceAdd, Nat.reduceSub, Nat.reduceMul, List.forall_mem_cons, List.forall_mem_nil, false_implies, implies_true, Try.f82, factsOf82, h6]
  · have hb' : decide (netE n = 0) = false := decide_eq_false h0
    have he : stE n l = netE n := by unfold stE; rw [if_pos h0]
    rw [he]
    refine rn_rule (fn := Try.f82) (code := bodyOf Try.f82) ok82 Try.func82 (by kernel_rfl) (Nat.le_of_ble_eq_true (by kernel_rfl)) ?_
    simp (decide := true) (implicitDefEqProofs := false) only [Am.findLoop, Am.loopOf, Am.bodyOf, Am.firstReg, Nat.beq, cond_true, cond_false, Am.splice, Am.walkW, Am.stdW, id, reduceCtorEq, Nat.reduceAdd, Nat.reduceSub, Nat.reduceMul, List.forall_mem_cons, List.forall_mem_nil, false_implies, implies_true, Try.f82, factsOf82, hck, hne, hnr, hb', a7]
end Go.Proofs.Ytcclbkkgpcpikaa

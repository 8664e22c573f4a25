import Derived.Test.YtcclbkkgpcpikaaJB
set_option linter.unusedSimpArgs false
set_option linter.unusedVariables false
namespace Go.Proofs.Ytcclbkkgpcpikaa
open Go.Am
set_option maxRecDepth 100000
theorem exp38_str' {H : List Mem} (s : ByteArray) : exp 38 H (.str s) = some (.str s) := rfl
noncomputable def topU (n : Net) : Mem := .row [[outN (busF n), .lst ((isleF n).map encN)]] 2 true
noncomputable def canonQ12 (n : Net) (q0 q1 q2 q3 q4 q5 : PV) (b : List Bool) (len k : Nat) : St := ⟨[(1, .ptr 0 0 0), (8, .ptr 1 0 0), (84, .lst (b.map encT)), (85, .int .i64 len), (86, .int .i64 k)], [rowN q0 q1 q2 q3 q4 q5, topU n]⟩
noncomputable def canonQ16 (n : Net) (q0 q1 q2 q3 q4 q5 : PV) (b : List Bool) (len k : Nat) (is live : Bool) (i : Nat) : St := ⟨[(1, .ptr 0 0 0), (8, .ptr 1 0 0), (9, .int .i64 k), (10, .bool is), (11, .bool live), (84, .lst (b.map encT)), (85, .int .i64 len), (86, .int .i64 k), (92, q0), (93, .int .i64 n.nodes.length), (94, .int .i64 i)], [rowN q0 q1 q2 q3 q4 q5, topU n]⟩
noncomputable def canonQx (n : Net) (q0 q1 q2 q3 q4 q5 : PV) (b : List Bool) (len k : Nat) (is live : Bool) : St := ⟨[(1, .ptr 0 0 0), (8, .ptr 1 0 0), (10, .bool is), (11, .bool live), (84, .lst (b.map encT)), (85, .int .i64 len), (86, .int .i64 k)], [rowN q0 q1 q2 q3 q4 q5, topU n]⟩
def postQ16 (n : Net) (q0 q1 q2 q3 q4 q5 : PV) (b : List Bool) (len k : Nat) (is live : Bool) (r : Ex × St) : Prop := r.1 = .exit 2 ∧ maskK (hints.keepB 6 2) ⟨6, 0, 134⟩ r.2 = some (canonQx n q0 q1 q2 q3 q4 q5 b len k is live)
theorem topU_flat (n : Net) : flatM (.row [[outN (busF n), .lst ((isleF n).map encN)]] 2 true) = true := by
  cases busF n <;> rfl
set_option maxHeartbeats 16000000 in
theorem law_in (n : Net) (q0 q1 q2 q3 q4 q5 : PV) (hq : NetQ n q0 q1 q2 q3 q4 q5) (hv : VNet n) (b : List Bool) (len k : Nat) (is : Bool) : ∀ (a : Nat × Bool) (t : St), a.1 ≤ n.nodes.length →
    maskK (hints.keep 6 (firstReg (loopOf Try.f6 16))) ⟨6, 0, 134⟩ t = some (canonQ16 n q0 q1 q2 q3 q4 q5 b len k is a.2 a.1) →
    Holds (L1.ex ⟨6, 0, 134⟩ (.loop (loopOf Try.f6 16)) t) (postQ16 n q0 q1 q2 q3 q4 q5 b len k is (lvF n k (n.nodes.length - a.1) a.1 a.2)) := by
  refine loop_rule (σ := Nat × Bool) (c := ⟨6, 0, 134⟩) (b := loopOf Try.f6 16) (fun a => canonQ16 n q0 q1 q2 q3 q4 q5 b len k is a.2 a.1) (fun a => a.1 ≤ n.nodes.length) (fun a => n.nodes.length - a.1) _ ?_
  rintro ⟨i, live⟩ hi
  simp only at hi
  have hln := hv.ln
  have hlg := hv.lg
  have hlo := hv.lo
  have fN := hq.no
  unfold rowN at fN
  have fU := topU_flat n
  obtain ⟨a1, a2, a3, a4, a5, a6, a7⟩ := hq.h0.ids
  by_cases hlt : i < n.nodes.length
  · have hix := fun H => index_sl (P := Try.prog) (H := H) hq.h0 slZ41 (k := .i64) (j := i) (by omega) (encS_get hlt) rfl
    have hlt' : decide ((i : Int) < n.nodes.length) = true := decide_eq_true (by omega)
    have hw : IntKind.i64.wrap ((i : Int) + 1) = ((i + 1 : Nat) : Int) := wrap64 (by omega) (by omega)
    have hnj : n.nodes.getD i ByteArray.empty = n.nodes[i] := by rw [List.getD_eq_getElem?_getD, List.getElem?_eq_getElem hlt]; rfl
    have hdr : lvF n k (n.nodes.length - i) i live = lvF n k (n.nodes.length - (i + 1)) (i + 1) (live || (decide ((isleF n).getD ((busF n).getD i 0) 0 = k) && srcAt n n.nodes[i])) := by
      obtain ⟨c, hc⟩ : ∃ c, n.nodes.length - i = c + 1 := ⟨n.nodes.length - i - 1, by omega⟩
      rw [hc, show n.nodes.length - (i + 1) = c by omega, lvF, hnj]
    rw [hdr]
    have hBl := (bus_num hv).1
    have hIl := (isle_num hv).1
    have hbm := bus_lt hv hlt
    have ib := fun H => index_sl (P := Try.prog) (H := H) (outN_sl' (busF n)) slZ24 (k := .i64) (j := i) (by omega) (by rw [Int.toNat_natCast]; exact getN (by omega : i < (busF n).length)) rfl
    rw [getD_get (by omega : i < (busF n).length)] at hbm ⊢
    generalize (busF n)[i]'(by omega) = u at ib hbm ⊢
    have ii := fun H => index_sl (P := Try.prog) (H := H) (.inr rfl : Sl (.lst ((isleF n).map encN)) _) slZ24 (k := .i64) (j := u) (by omega) (by rw [Int.toNat_natCast]; exact getN (by omega : u < (isleF n).length)) rfl
    rw [getD_get (by omega : u < (isleF n).length)]
    generalize (isleF n)[u]'(by omega) = w at ii ⊢
    have hdc : decide ((w : Int) = (k : Int)) = decide (w = k) := by rw [Bool.eq_iff_iff]; simp only [decide_eq_true_eq]; omega
    generalize n.nodes[i] = s at hix ⊢
    have cg := has_Gen_call q3 n.gn hq.h3 (by omega) s
    have cs := has_Sto_call q5 n.so hq.h5 (by omega) s
    have n3e := fun H => hq.h3.plain.exp (H := H)
    have n5e := fun H => hq.h5.plain.exp (H := H)
    unfold srcAt
    generalize (n.gn.any fun x => eqS x.node s) = g at cg ⊢
    generalize (n.so.any fun x => eqS x.node s) = o at cs ⊢
    generalize decide (w = k) = here at hdc ⊢
    cases live with
    | true =>
      simp (decide := true) (implicitDefEqProofs := false) only [Am.findLoop, Am.loopOf, Am.bodyOf, Am.firstReg, Nat.beq, cond_true, cond_false, Am.splice, Am.walkW, Am.stdW, id, reduceCtorEq, Nat.reduceAdd, Nat.reduceSub, Nat.reduceMul, List.forall_mem_cons, List.forall_mem_nil, false_implies, implies_true, Try.f6, factsOf6, canonQ16, rowN, topU, hix, hlt', hw, ib, ii, hdc, exp38_str', fN, fU, keep6_16, a1, a2, a3, a4, a5, a6, a7, Am.compactK, Am.idsT, Am.closeStep, Am.keepW, Am.kstdW]
      exact ⟨(i + 1, true), rfl, hlt, by simp only; omega, fun r hr => hr⟩
    | false =>
      cases here with
      | false =>
        simp (decide := true) (implicitDefEqProofs := false) only [Am.findLoop, Am.loopOf, Am.bodyOf, Am.firstReg, Nat.beq, cond_true, cond_false, Am.splice, Am.walkW, Am.stdW, id, reduceCtorEq, Nat.reduceAdd, Nat.reduceSub, Nat.reduceMul, List.forall_mem_cons, List.forall_mem_nil, false_implies, implies_true, Try.f6, factsOf6, canonQ16, rowN, topU, hix, hlt', hw, ib, ii, hdc, exp38_str', fN, fU, keep6_16, a1, a2, a3, a4, a5, a6, a7, Am.compactK, Am.idsT, Am.closeStep, Am.keepW, Am.kstdW]
        exact ⟨(i + 1, false), rfl, hlt, by simp only; omega, fun r hr => hr⟩
      | true =>
        cases g with
        | true =>
          simp (decide := true) (implicitDefEqProofs := false) only [Am.findLoop, Am.loopOf, Am.bodyOf, Am.firstReg, Nat.beq, cond_true, cond_false, Am.splice, Am.walkW, Am.stdW, id, reduceCtorEq, Nat.reduceAdd, Nat.reduceSub, Nat.reduceMul, List.forall_mem_cons, List.forall_mem_nil, false_implies, implies_true, Try.f6, factsOf6, canonQ16, rowN, topU, hix, hlt', hw, ib, ii, hdc, cg, n3e, exp40_func, exp39_ptr, ptrC_row, exp38_str', fN, fU, keep6_16, a1, a2, a3, a4, a5, a6, a7, Am.compactK, Am.idsT, Am.closeStep, Am.keepW, Am.kstdW]
          exact ⟨(i + 1, true), rfl, hlt, by simp only; omega, fun r hr => hr⟩
        | false =>
          simp (decide := true) (implicitDefEqProofs := false) only [Am.findLoop, Am.loopOf, Am.bodyOf, Am.firstReg, Nat.beq, cond_true, cond_false, Am.splice, Am.walkW, Am.stdW, id, reduceCtorEq, Nat.reduceAdd, Nat.reduceSub, Nat.reduceMul, List.forall_mem_cons, List.forall_mem_nil, false_implies, implies_true, Try.f6, factsOf6, canonQ16, rowN, topU, hix, hlt', hw, ib, ii, hdc, cg, cs, n3e, n5e, exp40_func, exp39_ptr, ptrC_row, exp38_str', fN, fU, keep6_16, a1, a2, a3, a4, a5, a6, a7, Am.compactK, Am.idsT, Am.closeStep, Am.keepW, Am.kstdW]
          exact ⟨(i + 1, o), rfl, hlt, by simp only; omega, fun r hr => by cases o <;> exact hr⟩
  · have hlt' : decide ((i : Int) < n.nodes.length) = false := decide_eq_false (by omega)
    rw [show n.nodes.length - i = 0 by omega]
    simp (decide := true) (implicitDefEqProofs := false) only [Am.findLoop, Am.loopOf, Am.bodyOf, Am.firstReg, Nat.beq, cond_true, cond_false, Am.splice, Am.walkW, Am.stdW, id, reduceCtorEq, Nat.reduceAdd, Nat.reduceSub, Nat.reduceMul, List.forall_mem_cons, List.forall_mem_nil, false_implies, implies_true, Try.f6, factsOf6, canonQ16, rowN, topU, hlt', a7]
    refine ⟨rfl, ?_⟩
    simp (decide := true) (implicitDefEqProofs := false) only [Am.findLoop, Am.loopOf, Am.bodyOf, Am.firstReg, Nat.beq, cond_true, cond_false, Am.splice, Am.walkW, Am.stdW, id, reduceCtorEq, Nat.reduceAdd, Nat.reduceSub, Nat.reduceMul, List.forall_mem_cons, List.forall_mem_nil, false_implies, implies_true, Try.f6, factsOf6, lvF, canonQx, rowN, topU, fN, fU, a1, a2, a3, a7, Am.compactK, Am.idsT, Am.closeStep, Am.keepW, Am.kstdW]
def postQ12 (r : Ex × St) : Prop := r.1 = .exit 0 ∧ maskK (hints.keepB 6 0) ⟨6, 0, 134⟩ r.2 = some ⟨[], []⟩
set_option maxHeartbeats 8000000 in
theorem law_out (n : Net) (q0 q1 q2 q3 q4 q5 : PV) (hq : NetQ n q0 q1 q2 q3 q4 q5) (h0 : netE n = 0) (hll : (liveF n).length = mostI n) (hm : mostI n ≤ 1000) : ∀ (k : Nat) (t : St), k ≤ mostI n →
    maskK (hints.keep 6 (firstReg (loopOf Try.f6 12))) ⟨6, 0, 134⟩ t = some (canonQ12 n q0 q1 q2 q3 q4 q5 (liveF n) (mostI n) k) →
    Holds (L1.ex ⟨6, 0, 134⟩ (.loop (loopOf Try.f6 12)) t) postQ12 := by
  refine loop_rule (σ := Nat) (c := ⟨6, 0, 134⟩) (b := loopOf Try.f6 12) (fun k => canonQ12 n q0 q1 q2 q3 q4 q5 (liveF n) (mostI n) k) (fun k => k ≤ mostI n) (fun k => mostI n - k) (fun _ => postQ12) ?_
  intro k hk
  have hv := vnet h0
  have fN := hq.no
  unfold rowN at fN
  have fU := topU_flat n
  have hl0 := fun H => (lens hq H).1
  obtain ⟨a1, a2, a3, a4, a5, a6, a7⟩ := hq.h0.ids
  by_cases hlt : k < mostI n
  · have hix := fun H => index_sl (P := Try.prog) (H := H) (.inr rfl : Sl (.lst ((liveF n).map encT)) _) slZ30 (k := .i64) (j := k) (by omega) (by rw [Int.toNat_natCast]; exact getT (by omega : k < (liveF n).length)) rfl
    have hlt' : decide ((k : Int) < (mostI n : Nat)) = true := decide_eq_true (by omega)
    have hw : IntKind.i64.wrap ((k : Int) + 1) = ((k + 1 : Nat) : Int) := wrap64 (by omega) (by omega)
    have he := live_eq h0 hlt
    rw [List.getD_eq_getElem?_getD, List.getElem?_eq_getElem (by omega)] at he
    simp only [Option.getD_some] at he
    generalize (liveF n)[k]'(by omega) = is at hix he
    simp (decide := true) (implicitDefEqProofs := false) only [Am.findLoop, Am.loopOf, Am.bodyOf, Am.firstReg, Nat.beq, cond_true, cond_false, Am.splice, Am.walkW, Am.stdW, id, reduceCtorEq, Nat.reduceAdd, Nat.reduceSub, Nat.reduceMul, List.forall_mem_cons, List.forall_mem_nil, false_implies, implies_true, Try.f6, factsOf6, canonQ12, rowN, topU, hix, hlt', hl0]
    simp only [holds_bind]
    refine (law_in n q0 q1 q2 q3 q4 q5 hq hv (liveF n) (mostI n) k is (0, false) _ (by simp only; omega) ?_).mono ?_
    · show maskK (hints.keep 6 16) _ _ = _
      simp (decide := true) (implicitDefEqProofs := false) only [Am.findLoop, Am.loopOf, Am.bodyOf, Am.firstReg, Nat.beq, cond_true, cond_false, Am.splice, Am.walkW, Am.stdW, id, reduceCtorEq, Nat.reduceAdd, Nat.reduceSub, Nat.reduceMul, List.forall_mem_cons, List.forall_mem_nil, false_implies, implies_true, Try.f6, factsOf6, keep6_16, canonQ16, rowN, topU, fN, fU, a1, a2, a3, a4, a5, a6, a7, Am.compactK, Am.idsT, Am.closeStep, Am.keepW, Am.kstdW]
      rfl
    · rintro ⟨e, s'⟩ ⟨h5, h6⟩
      cases h5
      rw [keepB6_2] at h6
      simp only [Nat.sub_zero, he] at h6
      have hbb : (is == is) = true := by simp
      simp (decide := true) (implicitDefEqProofs := false) only [Am.findLoop, Am.loopOf, Am.bodyOf, Am.firstReg, Nat.beq, cond_true, cond_false, Am.splice, Am.walkW, Am.stdW, id, reduceCtorEq, Nat.reduceAdd, Nat.reduceSub, Nat.reduceMul, List.forall_mem_cons, List.forall_mem_nil, false_implies, implies_true, Try.f6, factsOf6, h6, canonQx, rowN, topU, hw, hbb, fN, fU, keep6_12, Am.compactK, Am.idsT, Am.closeStep, Am.keepW, Am.kstdW]
      exact ⟨k + 1, rfl, hlt, by omega, fun r hr => hr⟩
  · have hlt' : decide ((k : Int) < (mostI n : Nat)) = false := decide_eq_false (by omega)
    simp (decide := true) (implicitDefEqProofs := false) only [Am.findLoop, Am.loopOf, Am.bodyOf, Am.firstReg, Nat.beq, cond_true, cond_false, Am.splice, Am.walkW, Am.stdW, id, reduceCtorEq, Nat.reduceAdd, Nat.reduceSub, Nat.reduceMul, List.forall_mem_cons, List.forall_mem_nil, false_implies, implies_true, Try.f6, factsOf6, canonQ12, rowN, topU, hlt']
    refine ⟨rfl, ?_⟩
    simp (decide := true) (implicitDefEqProofs := false) only [Am.findLoop, Am.loopOf, Am.bodyOf, Am.firstReg, Nat.beq, cond_true, cond_false, Am.splice, Am.walkW, Am.stdW, id, reduceCtorEq, Nat.reduceAdd, Nat.reduceSub, Nat.reduceMul, List.forall_mem_cons, List.forall_mem_nil, false_implies, implies_true, Try.f6, factsOf6, Am.compactK, Am.idsT, Am.closeStep, Am.keepW, Am.kstdW]
end Go.Proofs.Ytcclbkkgpcpikaa

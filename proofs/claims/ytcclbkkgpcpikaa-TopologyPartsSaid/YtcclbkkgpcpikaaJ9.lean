import Derived.Test.YtcclbkkgpcpikaaJ7
import Derived.Test.YtcclbkkgpcpikaaJ8
set_option linter.unusedSimpArgs false
set_option linter.unusedVariables false
namespace Go.Proofs.Ytcclbkkgpcpikaa
open Go.Am
set_option maxRecDepth 100000
noncomputable def canonL6 (n : Net) (q0 q1 q2 q3 q4 q5 : PV) (len m i : Nat) : St := ⟨[(1, .ptr 0 0 0), (4, .ptr 1 0 0), (6, .int .i64 m), (24, .lst ((isleF n).map encN)), (25, .int .i64 len), (26, .int .i64 i)], [rowN q0 q1 q2 q3 q4 q5, topR n]⟩
def postL6 (n : Net) (q0 q1 q2 q3 q4 q5 : PV) (m : Nat) (r : Ex × St) : Prop := r.1 = .exit 0 ∧ maskK (hints.keepB 30 0) ⟨30, 0, 63⟩ r.2 = some ⟨[(1, .ptr 0 0 0), (4, .ptr 1 0 0), (6, .int .i64 m)], [rowN q0 q1 q2 q3 q4 q5, topR n]⟩
theorem isle_le {n : Net} (hv : VNet n) : ∀ x ∈ isleF n, x ≤ 24 := by
  intro x hx
  obtain ⟨i, hi, rfl⟩ := mem_getD hx
  rw [(isle_num hv).1] at hi
  have := isNum_le (fun i k hi hk => joined_rch (brB_ok hv) hi hk) (fun v => .refl v) (fun _ _ _ => Rch.trans) (isle_num hv).2 hi
  have := many_le hv
  have := hv.ln
  omega
set_option maxHeartbeats 4000000 in
theorem live_most (n : Net) (q0 q1 q2 q3 q4 q5 : PV) (hq : NetQ n q0 q1 q2 q3 q4 q5) (hl : (isleF n).length ≤ 100) (hb : ∀ x ∈ isleF n, x ≤ 1000) : ∀ (a : Nat × Nat) (t : St), (a.1 ≤ (isleF n).length ∧ a.2 ≤ 2000) →
    maskK (hints.keep 30 (firstReg (loopOf Try.f30 6))) ⟨30, 0, 63⟩ t = some (canonL6 n q0 q1 q2 q3 q4 q5 (isleF n).length a.2 a.1) →
    Holds (L1.ex ⟨30, 0, 63⟩ (.loop (loopOf Try.f30 6)) t) (postL6 n q0 q1 q2 q3 q4 q5 (mostF a.2 ((isleF n).drop a.1))) := by
  refine loop_rule (σ := Nat × Nat) (c := ⟨30, 0, 63⟩) (b := loopOf Try.f30 6) (fun a => canonL6 n q0 q1 q2 q3 q4 q5 (isleF n).length a.2 a.1) (fun a => a.1 ≤ (isleF n).length ∧ a.2 ≤ 2000) (fun a => (isleF n).length - a.1) _ ?_
  rintro ⟨i, m⟩ ⟨hi, hm⟩
  simp only at hi hm
  have fN := hq.no
  unfold rowN at fN
  have f2 : flatM (.row [[PV.lst ((busF n).map encN), .lst ((isleF n).map encN)]] 2 true) = true := rfl
  by_cases hlt : i < (isleF n).length
  · have hix := fun H => index_sl (P := Try.prog) (H := H) (.inr rfl : Sl (.lst ((isleF n).map encN)) _) slZ24 (k := .i64) (j := i) (by omega) (by rw [Int.toNat_natCast]; exact getN hlt) rfl
    have hlt' : decide ((i : Int) < (isleF n).length) = true := decide_eq_true (by omega)
    have hw : IntKind.i64.wrap ((i : Int) + 1) = ((i + 1 : Nat) : Int) := wrap64 (by omega) (by omega)
    have hxb := hb _ (List.getElem_mem hlt)
    have hdr : mostF m ((isleF n).drop i) = mostF (if m ≤ (isleF n)[i] then (isleF n)[i] + 1 else m) ((isleF n).drop (i + 1)) := by rw [List.drop_eq_getElem_cons hlt, mostF]
    rw [hdr]
    generalize (isleF n)[i] = x at hix hxb
    have hwx : IntKind.i64.wrap ((x : Int) + 1) = ((x + 1 : Nat) : Int) := wrap64 (by omega) (by omega)
    have hmx : (if ((x + 1 : Nat) : Int) > (m : Int) then ((x + 1 : Nat) : Int) else (m : Int)) = (((if m ≤ x then x + 1 else m) : Nat) : Int) := by split <;> split <;> omega
    have hmb : (if m ≤ x then x + 1 else m) ≤ 2000 := by split <;> omega
    generalize (if m ≤ x then x + 1 else m) = m' at hmx hmb
    simp (decide := true) (implicitDefEqProofs := false) only [Am.findLoop, Am.loopOf, Am.bodyOf, Am.firstReg, Nat.beq, cond_true, cond_false, Am.splice, Am.walkW, Am.stdW, id, reduceCtorEq, Nat.reduceAdd, Nat.reduceSub, Nat.reduceMul, List.forall_mem_cons, List.forall_mem_nil, false_implies, implies_true, Try.f30, factsOf30, canonL6, rowN, topR, hix, hlt', hw, hwx, hmx, max_two, fN, f2, keep30_6, Am.compactK, Am.idsT, Am.closeStep, Am.keepW, Am.kstdW]
    exact ⟨(i + 1, m'), rfl, ⟨hlt, hmb⟩, by simp only; omega, fun r hr => hr⟩
  · have hlt' : decide ((i : Int) < (isleF n).length) = false := decide_eq_false (by omega)
    rw [List.drop_eq_nil_of_le (by omega)]
    simp (decide := true) (implicitDefEqProofs := false) only [Am.findLoop, Am.loopOf, Am.bodyOf, Am.firstReg, Nat.beq, cond_true, cond_false, Am.splice, Am.walkW, Am.stdW, id, reduceCtorEq, Nat.reduceAdd, Nat.reduceSub, Nat.reduceMul, List.forall_mem_cons, List.forall_mem_nil, false_implies, implies_true, Try.f30, factsOf30, canonL6, rowN, topR, hlt']
    refine ⟨rfl, ?_⟩
    simp (decide := true) (implicitDefEqProofs := false) only [Am.findLoop, Am.loopOf, Am.bodyOf, Am.firstReg, Nat.beq, cond_true, cond_false, Am.splice, Am.walkW, Am.stdW, id, reduceCtorEq, Nat.reduceAdd, Nat.reduceSub, Nat.reduceMul, List.forall_mem_cons, List.forall_mem_nil, false_implies, implies_true, Try.f30, factsOf30, mostF, rowN, topR, fN, f2, Am.compactK, Am.idsT, Am.closeStep, Am.keepW, Am.kstdW]
def liveF (n : Net) : List Bool := markL n (n.so.map (·.node)) (markL n (n.gn.map (·.node)) (List.replicate (mostI n) false))
theorem markL_len (n : Net) : ∀ (l : List ByteArray) (b : List Bool), (markL n l b).length = b.length
  | [], _ => rfl
  | s :: r, b => by rw [markL, markL_len n r, List.length_set]
theorem live_bad (n : Net) (q0 q1 q2 q3 q4 q5 : PV) (hq : NetQ n q0 q1 q2 q3 q4 q5) (hb : netE n ≠ 0) : pureCall hints L1 30 [.agg [q0, q1, q2, q3, q4, q5]] = some (.tup [.nils, .int .i64 (netE n)]) := by
  refine pure_of prim30 (Holds.mono (Q := fun r => r.1 = .tup [.nils, .int .i64 (netE n)]) ?_ fun r hr => by rw [hr]; rfl)
  have hof := of_bad n q0 q1 q2 q3 q4 q5 hq hb
  have hne := hq.exp
  have hnr := hq.rch
  have hb' : decide (netE n = 0) = false := decide_eq_false hb
  refine rn_rule (fn := Try.f30) (code := bodyOf Try.f30) ok30 Try.func30 (by kernel_rfl) (Nat.le_of_ble_eq_true (by kernel_rfl)) ?_
  simp (decide := true) (implicitDefEqProofs := false) only [Am.findLoop, Am.loopOf, Am.bodyOf, Am.firstReg, Nat.beq, cond_true, cond_false, Am.splice, Am.walkW, Am.stdW, id, reduceCtorEq, Nat.reduceAdd, Nat.reduceSub, Nat.reduceMul, List.forall_mem_cons, List.forall_mem_nil, false_implies, implies_true, Try.f30, factsOf30, hof, hne, hnr, hb', freeze_nil]
set_option maxHeartbeats 8000000 in
theorem live_ok (n : Net) (q0 q1 q2 q3 q4 q5 : PV) (hq : NetQ n q0 q1 q2 q3 q4 q5) (h0 : netE n = 0) : pureCall hints L1 30 [.agg [q0, q1, q2, q3, q4, q5]] = some (.tup [.lst ((liveF n).map encT), .int .i64 0]) := by
  have hv := vnet h0
  have hml := many_le hv
  have hln := hv.ln
  have hIl := (isle_num hv).1
  have hll : (liveF n).length = mostI n := by rw [liveF, markL_len, markL_len, List.length_replicate]
  refine pure_of prim30 (Holds.mono (Q := fun r => r = (.tup [.ref 1 0 (mostI n) (mostI n), .int .i64 0], [.row [[.ref 1 0 (mostI n) (mostI n)]] 1 true, rowB (liveF n)])) ?_ ?_)
  · have hof := of_ok n q0 q1 q2 q3 q4 q5 hq h0
    unfold topV at hof
    have hne := hq.exp
    have hnr := hq.rch
    have fN := hq.no
    unfold rowN at fN
    have hl3 := fun H => (lens hq H).2.2.2.1
    have hl5 := fun H => (lens hq H).2.2.2.2.2
    have hlen := fun H => len_lst (P := Try.prog) (H := H) slZ24 ((isleF n).map encN)
    rw [List.length_map] at hlen
    have hil := isle_le hv
    have hmo : mostI n ≤ 100 := by
      rcases mostF_hit (isleF n) 0 with h | ⟨x, hx, h⟩
      · rw [mostI, h]; omega
      · rw [mostI, h]; have := hil x hx; omega
    have hby : mostI n ≤ 281474976710656 := by omega
    have hcap : mostI n < 9223372036854775808 := by omega
    have hrep : List.replicate (mostI n) [PV.bool false] = (List.replicate (mostI n) false).map encT := by rw [List.map_replicate]; rfl
    have hm : ∀ s, memS s n.nodes = true → isAt n s < mostI n := by
      intro s hs
      refine (mostF_ge (isleF n) 0).2 _ (getD_mem ?_)
      rw [hIl]
      exact bus_lt hv (plN_ok hs).2
    have f2 : flatM (.row [[PV.lst ((busF n).map encN), .lst ((isleF n).map encN)]] 2 true) = true := rfl
    have f3 := flatT (List.replicate (mostI n) false)
    unfold rowT at f3
    obtain ⟨g1, g2, g3, g4, g5, g6, g7⟩ := hq.h3.ids
    obtain ⟨s1, s2, s3, s4, s5, s6, s7⟩ := hq.h5.ids
    refine rn_rule (fn := Try.f30) (code := bodyOf Try.f30) ok30 Try.func30 (by kernel_rfl) (Nat.le_of_ble_eq_true (by kernel_rfl)) ?_
    simp (decide := true) (implicitDefEqProofs := false) only [Am.findLoop, Am.loopOf, Am.bodyOf, Am.firstReg, Nat.beq, cond_true, cond_false, Am.splice, Am.walkW, Am.stdW, id, reduceCtorEq, Nat.reduceAdd, Nat.reduceSub, Nat.reduceMul, List.forall_mem_cons, List.forall_mem_nil, false_implies, implies_true, Try.f30, factsOf30, hof, hne, hnr, hlen, freeze_nil]
    simp only [holds_bind]
    refine (live_most n q0 q1 q2 q3 q4 q5 hq (by omega) (fun x hx => by have := hil x hx; omega) (0, 0) _ ⟨by omega, by omega⟩ ?_).mono ?_
    · show maskK (hints.keep 30 6) _ _ = _
      simp (decide := true) (implicitDefEqProofs := false) only [Am.findLoop, Am.loopOf, Am.bodyOf, Am.firstReg, Nat.beq, cond_true, cond_false, Am.splice, Am.walkW, Am.stdW, id, reduceCtorEq, Nat.reduceAdd, Nat.reduceSub, Nat.reduceMul, List.forall_mem_cons, List.forall_mem_nil, false_implies, implies_true, Try.f30, factsOf30, keep30_6, canonL6, rowN, topR, fN, f2, Am.compactK, Am.idsT, Am.closeStep, Am.keepW, Am.kstdW]
      rfl
    · rintro ⟨e, s'⟩ ⟨h5, h6⟩
      cases h5
      rw [keepB30_0] at h6
      simp only [List.drop_zero] at h6
      rw [show mostF 0 (isleF n) = mostI n from rfl] at h6
      have m0 : ∀ k, flatM (.row [[PV.ref k 0 (mostI n) (mostI n)]] 1 true) = false := fun _ => rfl
      simp (decide := true) (implicitDefEqProofs := false) only [Am.findLoop, Am.loopOf, Am.bodyOf, Am.firstReg, Nat.beq, cond_true, cond_false, Am.splice, Am.walkW, Am.stdW, id, reduceCtorEq, Nat.reduceAdd, Nat.reduceSub, Nat.reduceMul, List.forall_mem_cons, List.forall_mem_nil, false_implies, implies_true, Try.f30, factsOf30, h6, rowN, topR, makeSlice_nat, hby, hcap, hrep, hl3]
      simp only [holds_bind]
      refine (live_gens n q0 q1 q2 q3 q4 q5 hq hv (mostI n) hm (0, List.replicate (mostI n) false) _ ⟨by omega, by simp⟩ ?_).mono ?_
      · show maskK (hints.keep 30 13) _ _ = _
        simp (decide := true) (implicitDefEqProofs := false) only [Am.findLoop, Am.loopOf, Am.bodyOf, Am.firstReg, Nat.beq, cond_true, cond_false, Am.splice, Am.walkW, Am.stdW, id, reduceCtorEq, Nat.reduceAdd, Nat.reduceSub, Nat.reduceMul, List.forall_mem_cons, List.forall_mem_nil, false_implies, implies_true, Try.f30, factsOf30, keep30_13, canonL13, rowN, topR, rowB, fN, m0, f2, f3, g1, g2, g3, g4, g5, g6, g7, Am.compactK, Am.idsT, Am.closeStep, Am.keepW, Am.kstdW]
        rfl
      · rintro ⟨e, s'⟩ ⟨h7, h8⟩
        cases h7
        rw [keepB30_2] at h8
        simp only [List.drop_zero] at h8
        have hl1 : (markL n (n.gn.map (·.node)) (List.replicate (mostI n) false)).length = mostI n := by rw [markL_len, List.length_replicate]
        have hlF : markL n (n.so.map (·.node)) (markL n (n.gn.map (·.node)) (List.replicate (mostI n) false)) = liveF n := rfl
        generalize markL n (n.gn.map (·.node)) (List.replicate (mostI n) false) = b1 at h8 hl1 hlF
        have f4 := flatT b1
        unfold rowT at f4
        simp (decide := true) (implicitDefEqProofs := false) only [Am.findLoop, Am.loopOf, Am.bodyOf, Am.firstReg, Nat.beq, cond_true, cond_false, Am.splice, Am.walkW, Am.stdW, id, reduceCtorEq, Nat.reduceAdd, Nat.reduceSub, Nat.reduceMul, List.forall_mem_cons, List.forall_mem_nil, false_implies, implies_true, Try.f30, factsOf30, h8, rowN, topR, rowB, hl5]
        simp only [holds_bind]
        refine (live_stores n q0 q1 q2 q3 q4 q5 hq hv (mostI n) hm (0, b1) _ ⟨by omega, hl1⟩ ?_).mono ?_
        · show maskK (hints.keep 30 18) _ _ = _
          simp (decide := true) (implicitDefEqProofs := false) only [Am.findLoop, Am.loopOf, Am.bodyOf, Am.firstReg, Nat.beq, cond_true, cond_false, Am.splice, Am.walkW, Am.stdW, id, reduceCtorEq, Nat.reduceAdd, Nat.reduceSub, Nat.reduceMul, List.forall_mem_cons, List.forall_mem_nil, false_implies, implies_true, Try.f30, factsOf30, keep30_18, canonL18, rowN, topR, rowB, fN, m0, f2, f4, s1, s2, s3, s4, s5, s6, s7, Am.compactK, Am.idsT, Am.closeStep, Am.keepW, Am.kstdW]
          rfl
        · rintro ⟨e, s'⟩ ⟨h9, h10⟩
          cases h9
          rw [keepB30_4] at h10
          simp only [List.drop_zero, hlF] at h10
          simp (decide := true) (implicitDefEqProofs := false) only [Am.findLoop, Am.loopOf, Am.bodyOf, Am.firstReg, Nat.beq, cond_true, cond_false, Am.splice, Am.walkW, Am.stdW, id, reduceCtorEq, Nat.reduceAdd, Nat.reduceSub, Nat.reduceMul, List.forall_mem_cons, List.forall_mem_nil, false_implies, implies_true, Try.f30, factsOf30, h10, rowB]
  · rintro r rfl
    have e2 := exp_full39 (H := [.row [[.ref 1 0 (mostI n) (mostI n)]] 1 true, rowB (liveF n)]) (i := 1) (k := mostI n) (z := 1) (es := (liveF n).map encT) (b := true) rfl (by rw [List.length_map]; exact hll) (plainT _)
    simp only [exp_tup, omap_cons', omap_nil', exp39_int, e2, Option.bind_some, Option.map_some]
end Go.Proofs.Ytcclbkkgpcpikaa

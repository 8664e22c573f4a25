/-
  For every network and every two names the law 'StationPaths' returns true, and its arguments read afterwards as before. Conditions: none beyond the given statement's.
-/
import Derived.Test.YtcclbkkgpcpikaaK7
import Derived.Test.YtcclbkkgpcpikaaNet
set_option linter.unusedSimpArgs false
set_option linter.unusedVariables false
namespace Go.Proofs.Ytcclbkkgpcpikaa
open Go.Am
set_option maxRecDepth 100000
set_option maxHeartbeats 16000000 in
theorem station_run (n : Net) (q0 q1 q2 q3 q4 q5 : PV) (hq : NetQ n q0 q1 q2 q3 q4 q5) (a b : ByteArray) : Holds (L1.rn 8 [.agg [q0, q1, q2, q3, q4, q5], .str a, .str b] []) (fun r => r.1 = .bool true) := by
  by_cases h0 : stE n [a, b] = 0
  · exact station_main n q0 q1 q2 q3 q4 q5 hq a b h0
  have hfact := stationFact_call
  have hne := hq.exp
  have hnr := hq.rch
  have hge := netError_call n q0 q1 q2 q3 q4 q5 hq
  have hp := spath_call n q0 q1 q2 q3 q4 q5 hq a b
  have hj := sjoin_call n q0 q1 q2 q3 q4 q5 hq a b
  have hp0 : sPathV n a b = .tup [.nils, .int .i64 (stE n [a, b])] := by unfold sPathV; rw [if_pos h0]
  have hj0 : sJoinV n a b = .tup [.nils, .int .i64 (stE n [a, b])] := by unfold sJoinV; rw [if_pos h0]
  rw [hp0] at hp
  rw [hj0] at hj
  have lz := fun H => len_nils (P := Try.prog) (H := H) slZ41
  have w0 : IntKind.i64.wrap ((0 : Int) + 0) = 0 := by decide
  by_cases h1 : netE n = 0
  · have hv := vnet h1
    have hln := hv.ln
    have hlm : n.nodes.length ≤ maxLen := by unfold maxLen; omega
    have ha := has_call q0 n.nodes hq.h0 a hlm
    have hb := has_call q0 n.nodes hq.h0 b hlm
    have n0e := fun H => hq.h0.plain.exp (H := H)
    have n0r := fun H => hq.h0.rch (H := H)
    have he : stE n [a, b] = if allM n [a, b] = true then 0 else 6 := by unfold stE; rw [if_neg (by simpa using h1)]
    rw [h1] at hge
    rw [he] at hp hj h0
    cases hA : memS a n.nodes with
    | true =>
      cases hB : memS b n.nodes with
      | true => exact absurd (by simp [allM, hA, hB]) h0
      | false =>
        have hAll : allM n [a, b] = false := by simp [allM, hA, hB]
        rw [hAll] at hp hj
        rw [hA] at ha
        rw [hB] at hb
        simp only [Bool.false_eq_true, if_false] at hp hj
        refine rn_rule (fn := Try.f8) (code := bodyOf Try.f8) ok8 Try.func8 (by kernel_rfl) (Nat.le_of_ble_eq_true (by kernel_rfl)) ?_
        simp (maxSteps := 2000000) (decide := true) (implicitDefEqProofs := false) only [Am.findLoop, Am.loopOf, Am.bodyOf, Am.firstReg, Nat.beq, cond_true, cond_false, Am.splice, Am.walkW, Am.stdW, id, reduceCtorEq, Nat.reduceAdd, Nat.reduceSub, Nat.reduceMul, List.forall_mem_cons, List.forall_mem_nil, false_implies, implies_true, Try.f8, factsOf8, hfact, hp, hj, hge, hne, hnr, n0e, n0r, ha, hb, lz, w0]
    | false =>
      have hAll : allM n [a, b] = false := by simp [allM, hA]
      rw [hAll] at hp hj
      rw [hA] at ha
      simp only [Bool.false_eq_true, if_false] at hp hj
      refine rn_rule (fn := Try.f8) (code := bodyOf Try.f8) ok8 Try.func8 (by kernel_rfl) (Nat.le_of_ble_eq_true (by kernel_rfl)) ?_
      simp (maxSteps := 2000000) (decide := true) (implicitDefEqProofs := false) only [Am.findLoop, Am.loopOf, Am.bodyOf, Am.firstReg, Nat.beq, cond_true, cond_false, Am.splice, Am.walkW, Am.stdW, id, reduceCtorEq, Nat.reduceAdd, Nat.reduceSub, Nat.reduceMul, List.forall_mem_cons, List.forall_mem_nil, false_implies, implies_true, Try.f8, factsOf8, hfact, hp, hj, hge, hne, hnr, n0e, n0r, ha, lz, w0]
  · have he : stE n [a, b] = netE n := by unfold stE; rw [if_pos h1]
    rw [he] at hp hj
    have h1' : decide (netE n = 0) = false := decide_eq_false h1
    refine rn_rule (fn := Try.f8) (code := bodyOf Try.f8) ok8 Try.func8 (by kernel_rfl) (Nat.le_of_ble_eq_true (by kernel_rfl)) ?_
    simp (maxSteps := 2000000) (decide := true) (implicitDefEqProofs := false) only [Am.findLoop, Am.loopOf, Am.bodyOf, Am.firstReg, Nat.beq, cond_true, cond_false, Am.splice, Am.walkW, Am.stdW, id, reduceCtorEq, Nat.reduceAdd, Nat.reduceSub, Nat.reduceMul, List.forall_mem_cons, List.forall_mem_nil, false_implies, implies_true, Try.f8, factsOf8, hfact, hp, hj, hge, hne, hnr, h1', lz, w0]
theorem tys_law : omap (tyOf Try.prog 20) Try.f8.params.toList = some [tyNet, .str, .str] := by kernel_rfl
theorem law_eval (qs : List PV) (h : HasArgs [tyNet, .str, .str] qs) : ∃ n H', (evalF Try.prog hints n).rn 8 qs [] = some (.bool true, H') := by
  simp only [HasArgs] at h
  obtain ⟨p, _, rfl, h1, p2, _, rfl, h2, p3, _, rfl, h3, rfl⟩ := h
  obtain ⟨n, q0, q1, q2, q3, q4, q5, rfl, hq⟩ := net_get p h1
  obtain ⟨a, rfl, _⟩ := arg_str h2
  obtain ⟨b, rfl, _⟩ := arg_str h3
  obtain ⟨⟨v, H'⟩, hr, hv⟩ := station_run n q0 q1 q2 q3 q4 q5 hq a b
  simp only at hv
  subst hv
  obtain ⟨k, hk⟩ := lim_evalF hr
  exact ⟨k, H', hk⟩
open Go.ChangeShapes Go.WideShapes Go.ChangeAt Go.RowKit
theorem law_lifted (os : Os) (started : os.Started) (H : Type) (enc : TypeId × Value → H) :
    ReturnsInHanded {} Try.checked os 8 .any (Rows.stationPathsSpec.pre6 enc Try.prog Try.f8 Rows.stationPathsRow.domain false) (Rows.stationPathsSpec.post enc Try.prog Try.f8 false true false false) := by
  refine returnsInHanded_of_change_sized (C := Try.checked) own0 started (by kernel_rfl) Try.func8
    (ChangeSpec.witness6 (enc := enc) (C := Try.checked) false ⟨#[], #[.agg #[.slice none 0 0, .slice none 0 0, .slice none 0 0, .slice none 0 0, .slice none 0 0, .slice none 0 0], .string ByteArray.empty, .string ByteArray.empty], []⟩ 8 (by kernel_rfl) (by kernel_rfl) (by kernel_rfl) (by kernel_rfl)) ?_
  intro W base args ds gs before hval hW _ hsz _
  exact law_contract (fn := Try.f8) (s := Rows.stationPathsSpec) (tb := 4) static prims laidOut0 rfl (by kernel_rfl) Try.underlying4 (of_decide_eq_true (by kernel_rfl)) tys_law law_eval (by
    intro ds hds
    have h3 : Try.f8.params.size = 3 := by kernel_rfl
    rw [h3] at hds
    match ds, hds with
    | [_, _, _], _ => rfl) hval hW hsz
theorem stationPaths_holds : Rows.StationPathsSaid :=
  OpenClaim.holds_of_wide 8 Try.f8 rfl rfl rfl rfl rfl rfl rfl ⟨rfl, rfl, rfl, rfl, rfl⟩ rfl rfl rfl rfl rfl (by kernel_rfl) Try.func8 (by kernel_rfl)
    (of_decide_eq_true (by kernel_rfl)) (by unfold Func.isWrapper; first | (rw [if_pos (by decide +kernel)]; kernel_rfl) | (rw [if_neg (by decide +kernel)]; exact ⟨rfl, rfl⟩))
    (fun os started H enc _ => law_lifted os started H enc)
end Go.Proofs.Ytcclbkkgpcpikaa

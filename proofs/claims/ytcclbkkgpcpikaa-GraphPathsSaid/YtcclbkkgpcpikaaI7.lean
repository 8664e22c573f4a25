/-
  For every number of nodes, every list of edges and every two numbers the law 'GraphPaths' returns true, and its arguments read afterwards as before. Conditions: none beyond the given statement's.
-/
import Derived.Test.YtcclbkkgpcpikaaI6
import Derived.Test.YtcclbkkgpcpikaaTop
set_option linter.unusedSimpArgs false
set_option linter.unusedVariables false
namespace Go.Proofs.Ytcclbkkgpcpikaa
open Go.Am
set_option maxRecDepth 100000
theorem outN_sl (l : List Nat) : Sl (outN l) ((l.map Int.ofNat).map encI) := by
  cases l with
  | nil => exact .inl ⟨rfl, rfl⟩
  | cons x r => right; rw [List.map_map]; rfl
theorem graphFact_call : pureCall hints L1 9 [] = some (.bool true) := by
  simp only [pureCall, prim9, factOf, Option.bind_some]; rfl
theorem longR_lt {use : Nat → Bool} {l : List (Nat × Nat)} {to fr : Nat} : ∀ {c L : Nat} {w : List Nat}, longR use l to fr c L = some w → w.length < L + c
  | 0, _, _, h => by cases h
  | c + 1, L, w, h => by
    rw [longR] at h
    split at h
    · rename_i w' hw
      cases h
      rw [walkF_len hw]; omega
    · have := longR_lt h; omega
theorem shortR_len (use : Nat → Bool) (n : Nat) (l : List (Nat × Nat)) (fr to : Nat) : (shortR use n l fr to).2.length ≤ n := by
  unfold shortR
  split
  · split
    · rename_i w hw
      have := longR_lt hw
      simp only; omega
    · simp
  · simp
set_option maxHeartbeats 8000000 in
theorem law_run (q : PV) (l : List (Int × Int)) (hq : Sl q (l.map enc2)) (n fr to : Int) : Holds (L1.rn 4 [.int .i64 n, q, .int .i64 fr, .int .i64 to] []) (fun r => r.1 = .bool true) := by
  have hlen := fun H => len_sl (P := Try.prog) (H := H) hq slZ22
  rw [List.length_map] at hlen
  have hqe := fun H => hq.plain.exp (H := H)
  have hqr := fun H => hq.rch (H := H)
  have hfact := graphFact_call
  have hge := graphError_call q l hq n
  have hln := fun H => len_nils (P := Try.prog) (H := H) slZ24
  by_cases hB : graphCheck n l = 0
  · rw [hB] at hge
    by_cases hO : (outR n fr || outR n to) = true
    · have hw := way_out q l hq n fr to hB hO
      unfold outR at hO
      refine rn_rule (fn := Try.f4) (code := bodyOf Try.f4) ok4 Try.func4 (by kernel_rfl) (Nat.le_of_ble_eq_true (by kernel_rfl)) ?_
      cases d1 : decide (fr < 0) with
      | true => simp (decide := true) (implicitDefEqProofs := false) only [Am.findLoop, Am.loopOf, Am.bodyOf, Am.firstReg, Nat.beq, cond_true, cond_false, Am.splice, Am.walkW, Am.stdW, id, reduceCtorEq, Nat.reduceAdd, Nat.reduceSub, Nat.reduceMul, List.forall_mem_cons, List.forall_mem_nil, false_implies, implies_true, Try.f4, factsOf4, hfact, hge, hw, hqe, hqr, hln, d1]
      | false =>
        cases d2 : decide (n ≤ fr) with
        | true => simp (decide := true) (implicitDefEqProofs := false) only [Am.findLoop, Am.loopOf, Am.bodyOf, Am.firstReg, Nat.beq, cond_true, cond_false, Am.splice, Am.walkW, Am.stdW, id, reduceCtorEq, Nat.reduceAdd, Nat.reduceSub, Nat.reduceMul, List.forall_mem_cons, List.forall_mem_nil, false_implies, implies_true, Try.f4, factsOf4, hfact, hge, hw, hqe, hqr, hln, d1, d2]
        | false =>
          cases d3 : decide (to < 0) with
          | true => simp (decide := true) (implicitDefEqProofs := false) only [Am.findLoop, Am.loopOf, Am.bodyOf, Am.firstReg, Nat.beq, cond_true, cond_false, Am.splice, Am.walkW, Am.stdW, id, reduceCtorEq, Nat.reduceAdd, Nat.reduceSub, Nat.reduceMul, List.forall_mem_cons, List.forall_mem_nil, false_implies, implies_true, Try.f4, factsOf4, hfact, hge, hw, hqe, hqr, hln, d1, d2, d3]
          | false =>
            cases d4 : decide (n ≤ to) with
            | true => simp (decide := true) (implicitDefEqProofs := false) only [Am.findLoop, Am.loopOf, Am.bodyOf, Am.firstReg, Nat.beq, cond_true, cond_false, Am.splice, Am.walkW, Am.stdW, id, reduceCtorEq, Nat.reduceAdd, Nat.reduceSub, Nat.reduceMul, List.forall_mem_cons, List.forall_mem_nil, false_implies, implies_true, Try.f4, factsOf4, hfact, hge, hw, hqe, hqr, hln, d1, d2, d3, d4]
            | false => rw [d1, d2, d3, d4] at hO; cases hO
    · have hO' : outR n fr = false ∧ outR n to = false := by
        cases h1 : outR n fr <;> cases h2 : outR n to <;> simp_all
      unfold outR at hO'
      simp only [Bool.or_eq_false_iff] at hO'
      obtain ⟨⟨d1, d2⟩, d3, d4⟩ := hO'
      obtain ⟨m, l', rfl, rfl, hm, hok, hl⟩ := graph_ok hB
      have g1 := of_decide_eq_false d1
      have g2 := of_decide_eq_false d2
      have g3 := of_decide_eq_false d3
      have g4 := of_decide_eq_false d4
      obtain ⟨u, rfl⟩ : ∃ u : Nat, fr = u := ⟨fr.toNat, by omega⟩
      obtain ⟨v, rfl⟩ : ∃ v : Nat, to = v := ⟨to.toNat, by omega⟩
      have hum : u < m := by omega
      have hvm : v < m := by omega
      have hq' : Sl q (l'.map enc2N) := by rw [castE_enc] at hq; exact hq
      rw [List.length_map] at hlen
      have hF := farOk (l := l') hm hok hvm
      have hw := way_ok q l' hq' m hm hok hl hB u v hum hvm hF
      rw [way_short hm hok hum hvm] at hw
      have hs := short_call m hm q l' hq' hok hl 18 [] yesU (clo_yes l'.length) u v hum hvm
      have hsl := shortR_len yesU m l' u v
      generalize shortR yesU m l' u v = w at hw hs hsl
      obtain ⟨b, w⟩ := w
      have sl3 := outN_sl w
      have o1 := fun H => sl3.plain.exp (H := H)
      have o2 := fun H => sl3.rch (H := H)
      have he := equal_call _ _ _ _ sl3 sl3 (by simp only [List.length_map] at hsl ⊢; omega)
      rw [decide_eq_true rfl] at he
      refine rn_rule (fn := Try.f4) (code := bodyOf Try.f4) ok4 Try.func4 (by kernel_rfl) (Nat.le_of_ble_eq_true (by kernel_rfl)) ?_
      cases b with
      | true =>
        simp only [wayV, if_true] at hw hs
        cases e1 : decide (7 < (m : Int)) with
        | true => simp (decide := true) (implicitDefEqProofs := false) only [Am.findLoop, Am.loopOf, Am.bodyOf, Am.firstReg, Nat.beq, cond_true, cond_false, Am.splice, Am.walkW, Am.stdW, id, reduceCtorEq, Nat.reduceAdd, Nat.reduceSub, Nat.reduceMul, List.forall_mem_cons, List.forall_mem_nil, false_implies, implies_true, Try.f4, factsOf4, hfact, hge, hw, hqe, hqr, hln, d1, d2, d3, d4, e1]
        | false =>
          cases e2 : decide (9 < (l'.length : Int)) with
          | true => simp (decide := true) (implicitDefEqProofs := false) only [Am.findLoop, Am.loopOf, Am.bodyOf, Am.firstReg, Nat.beq, cond_true, cond_false, Am.splice, Am.walkW, Am.stdW, id, reduceCtorEq, Nat.reduceAdd, Nat.reduceSub, Nat.reduceMul, List.forall_mem_cons, List.forall_mem_nil, false_implies, implies_true, Try.f4, factsOf4, hfact, hge, hw, hqe, hqr, hln, hlen, d1, d2, d3, d4, e1, e2]
          | false => simp (decide := true) (implicitDefEqProofs := false) only [Am.findLoop, Am.loopOf, Am.bodyOf, Am.firstReg, Nat.beq, cond_true, cond_false, Am.splice, Am.walkW, Am.stdW, id, reduceCtorEq, Nat.reduceAdd, Nat.reduceSub, Nat.reduceMul, List.forall_mem_cons, List.forall_mem_nil, false_implies, implies_true, Try.f4, factsOf4, hfact, hge, hw, hqe, hqr, hln, hlen, d1, d2, d3, d4, e1, e2, hs, exp40_func, rch40_func, freeze_nil, o1, o2, he]
      | false =>
        simp only [wayV, Bool.false_eq_true, if_false] at hw hs
        cases e1 : decide (7 < (m : Int)) with
        | true => simp (decide := true) (implicitDefEqProofs := false) only [Am.findLoop, Am.loopOf, Am.bodyOf, Am.firstReg, Nat.beq, cond_true, cond_false, Am.splice, Am.walkW, Am.stdW, id, reduceCtorEq, Nat.reduceAdd, Nat.reduceSub, Nat.reduceMul, List.forall_mem_cons, List.forall_mem_nil, false_implies, implies_true, Try.f4, factsOf4, hfact, hge, hw, hqe, hqr, hln, d1, d2, d3, d4, e1]
        | false =>
          cases e2 : decide (9 < (l'.length : Int)) with
          | true => simp (decide := true) (implicitDefEqProofs := false) only [Am.findLoop, Am.loopOf, Am.bodyOf, Am.firstReg, Nat.beq, cond_true, cond_false, Am.splice, Am.walkW, Am.stdW, id, reduceCtorEq, Nat.reduceAdd, Nat.reduceSub, Nat.reduceMul, List.forall_mem_cons, List.forall_mem_nil, false_implies, implies_true, Try.f4, factsOf4, hfact, hge, hw, hqe, hqr, hln, hlen, d1, d2, d3, d4, e1, e2]
          | false => simp (decide := true) (implicitDefEqProofs := false) only [Am.findLoop, Am.loopOf, Am.bodyOf, Am.firstReg, Nat.beq, cond_true, cond_false, Am.splice, Am.walkW, Am.stdW, id, reduceCtorEq, Nat.reduceAdd, Nat.reduceSub, Nat.reduceMul, List.forall_mem_cons, List.forall_mem_nil, false_implies, implies_true, Try.f4, factsOf4, hfact, hge, hw, hqe, hqr, hln, hlen, d1, d2, d3, d4, e1, e2, hs, exp40_func, rch40_func, freeze_nil, o1, o2]
  · have hw := way_bad q l hq n fr to hB
    have hB' : decide (graphCheck n l = 0) = false := decide_eq_false hB
    refine rn_rule (fn := Try.f4) (code := bodyOf Try.f4) ok4 Try.func4 (by kernel_rfl) (Nat.le_of_ble_eq_true (by kernel_rfl)) ?_
    simp (decide := true) (implicitDefEqProofs := false) only [Am.findLoop, Am.loopOf, Am.bodyOf, Am.firstReg, Nat.beq, cond_true, cond_false, Am.splice, Am.walkW, Am.stdW, id, reduceCtorEq, Nat.reduceAdd, Nat.reduceSub, Nat.reduceMul, List.forall_mem_cons, List.forall_mem_nil, false_implies, implies_true, Try.f4, factsOf4, hfact, hge, hw, hqe, hqr, hln, hB']
/-! from the evaluator to the statement -/
def tyGE : Am.Ty := .slice (.agg [.int .i64, .int .i64]) 16
theorem tys_law : omap (tyOf Try.prog 20) Try.f4.params.toList = some [.int .i64, tyGE, .int .i64, .int .i64] := by kernel_rfl
theorem edge_get (c : List PV) (h : HasTy (.agg [.int .i64, .int .i64]) c) : ∃ x : Int × Int, c = enc2 x ∧ True := by
  simp only [HasTy, HasTys] at h
  obtain ⟨_, _, rfl, ⟨a, rfl, ha⟩, _, _, rfl, ⟨b, rfl, _⟩, rfl⟩ := h
  exact ⟨(a, b), rfl, trivial⟩
theorem law_eval (qs : List PV) (h : HasArgs [.int .i64, tyGE, .int .i64, .int .i64] qs) : ∃ n H', (evalF Try.prog hints n).rn 4 qs [] = some (.bool true, H') := by
  simp only [HasArgs] at h
  obtain ⟨p, _, rfl, h1, q, _, rfl, h2, u, _, rfl, h3, v, _, rfl, h4, rfl⟩ := h
  obtain ⟨n, rfl, _⟩ := arg_int h1
  obtain ⟨u, rfl, _⟩ := arg_int h3
  obtain ⟨v, rfl, _⟩ := arg_int h4
  obtain ⟨l, hl, _⟩ := arg_slice edge_get h2
  obtain ⟨⟨v, H'⟩, hr, hv⟩ := law_run q l hl n u v
  simp only at hv
  subst hv
  obtain ⟨k, hk⟩ := lim_evalF hr
  exact ⟨k, H', hk⟩
open Go.ChangeShapes Go.WideShapes Go.ChangeAt Go.RowKit
theorem law_lifted (os : Os) (started : os.Started) (H : Type) (enc : TypeId × Value → H) :
    ReturnsInHanded {} Try.checked os 4 .any (Rows.graphPathsSpec.pre6 enc Try.prog Try.f4 Rows.graphPathsRow.domain false) (Rows.graphPathsSpec.post enc Try.prog Try.f4 false true false false) := by
  refine returnsInHanded_of_change_sized (C := Try.checked) own0 started (by kernel_rfl) Try.func4
    (ChangeSpec.witness6 (enc := enc) (C := Try.checked) false ⟨#[], #[.int .i64 0, .slice none 0 0, .int .i64 0, .int .i64 0], []⟩ 8 (by kernel_rfl) (by kernel_rfl) (by kernel_rfl) (by kernel_rfl)) ?_
  intro W base args ds gs before hval hW _ hsz _
  exact law_contract (fn := Try.f4) (s := Rows.graphPathsSpec) (tb := 4) static prims laidOut0 rfl (by kernel_rfl) Try.underlying4 (of_decide_eq_true (by kernel_rfl)) tys_law law_eval (by
    intro ds hds
    have h3 : Try.f4.params.size = 4 := by kernel_rfl
    rw [h3] at hds
    match ds, hds with
    | [_, _, _, _], _ => rfl) hval hW hsz
theorem graphPaths_holds : Rows.GraphPathsSaid :=
  OpenClaim.holds_of_wide 4 Try.f4 rfl rfl rfl rfl rfl rfl rfl ⟨rfl, rfl, rfl, rfl, rfl⟩ rfl rfl rfl rfl rfl (by kernel_rfl) Try.func4 (by kernel_rfl)
    (of_decide_eq_true (by kernel_rfl)) (by unfold Func.isWrapper; first | (rw [if_pos (by decide +kernel)]; kernel_rfl) | (rw [if_neg (by decide +kernel)]; exact ⟨rfl, rfl⟩))
    (fun os started H enc _ => law_lifted os started H enc)
end Go.Proofs.Ytcclbkkgpcpikaa

/-
  For every number of nodes and every list of edges the law 'GraphParts' returns true, and its arguments read afterwards as before. Conditions: none beyond the given statement's.
-/
import Derived.Test.YtcclbkkgpcpikaaH9
import Derived.Test.YtcclbkkgpcpikaaTop
set_option linter.unusedSimpArgs false
set_option linter.unusedVariables false
namespace Go.Proofs.Ytcclbkkgpcpikaa
open Go.Am
set_option maxRecDepth 100000
theorem outN_sl (l : List Nat) : Sl (outN l) ((l.map Int.ofNat).map encI) := by
  cases l with
  | nil => exact .inl ⟨rfl, rfl⟩
  | cons x r => right; rw [List.map_map]; rfl
theorem useOf_neg (k : Nat) : useOf (-1) k = true := by
  simp only [useOf, Bool.not_eq_true', decide_eq_false_iff_not]; omega
theorem useOf_all : useOf (-1) = fun _ => true := funext useOf_neg
theorem graphFact_call : pureCall hints L1 9 [] = some (.bool true) := by
  simp only [pureCall, prim9, factOf, Option.bind_some]; rfl
theorem outF_len (n : Nat) (l0 : List (Nat × Nat)) : ∀ (r : List (Nat × Nat)) (k : Nat), (outF n l0 k r).length ≤ r.length
  | [], _ => Nat.le_refl _
  | x :: r, k => by
    rw [outF]
    have := outF_len n l0 r (k + 1)
    split <;> simp only [List.length_cons] <;> omega
set_option maxHeartbeats 8000000 in
theorem law_run (q : PV) (l : List (Int × Int)) (hq : Sl q (l.map enc2)) (n : Int) : Holds (L1.rn 3 [.int .i64 n, q] []) (fun r => r.1 = .bool true) := by
  have hlen := fun H => len_sl (P := Try.prog) (H := H) hq slZ22
  rw [List.length_map] at hlen
  have hqe := fun H => hq.plain.exp (H := H)
  have hqr := fun H => hq.rch (H := H)
  obtain ⟨a1, a2, a3, a4, a5, a6, a7⟩ := hq.ids
  have hfact := graphFact_call
  have hge := graphError_call q l hq n
  have hck := check_call q l hq n
  by_cases hA : 10 < n ∧ n < 25 ∧ (l.length : Int) < 65
  · have d1 : decide (10 < n) = true := decide_eq_true hA.1
    have d2 : decide (n < 25) = true := decide_eq_true hA.2.1
    have d3 : decide ((l.length : Int) < 65) = true := decide_eq_true hA.2.2
    refine rn_rule (fn := Try.f3) (code := bodyOf Try.f3) ok3 Try.func3 (by kernel_rfl) (Nat.le_of_ble_eq_true (by kernel_rfl)) ?_
    simp (decide := true) (implicitDefEqProofs := false) only [Am.findLoop, Am.loopOf, Am.bodyOf, Am.firstReg, Nat.beq, cond_true, cond_false, Am.splice, Am.walkW, Am.stdW, id, reduceCtorEq, Nat.reduceAdd, Nat.reduceSub, Nat.reduceMul, List.forall_mem_cons, List.forall_mem_nil, false_implies, implies_true, Try.f3, factsOf3, hfact, hlen, d1, d2, d3]
  by_cases hB : graphCheck n l = 0
  · obtain ⟨m, l', rfl, rfl, hm, hok, hl⟩ := graph_ok hB
    have hq' : Sl q (l'.map enc2N) := by rw [castE_enc] at hq; exact hq
    rw [List.length_map] at hlen hA
    have hc := comp_ok q l' hq' m hm hok hl hB
    have hb := br_ok q l' hq' m hm hok hl hB
    rw [hB] at hge hck
    have hm10 : m ≤ 10 := by omega
    have d1 : decide (10 < (m : Int)) = false := decide_eq_false (by omega)
    have hpl := parts_numbers (wo := -1) hok
    have hbo := br_out hok l' 0 hok
    have hJs := joinedF_sq (used := fun _ => true) hok
    have hj := joined_call m hm q l' hq' hok hl _ _ _ (clo_yes l'.length)
    have hnm := numbers_call m hm _ hJs
    rw [useOf_all] at hpl
    have hnl : (numbersF (joinedF (fun _ => true) m l') m).length = m := (numbersF_num hok).1
    have hol := outF_len m l' l' 0
    rw [hbo] at hb
    rw [hpl] at hc
    have sl1 : Sl (.lst (((numbersF (joinedF (fun _ => true) m l') m).map Int.ofNat).map encI)) _ := .inr rfl
    have sl2 := outN_sl (numbersF (joinedF (fun _ => true) m l') m)
    have sl3 := outN_sl (outF m l' 0 l')
    have he1 := equal_call _ _ _ _ sl1 sl2 (by simp; omega)
    have he2 := equal_call _ _ _ _ sl3 sl3 (by simp; omega)
    rw [decide_eq_true rfl] at he1 he2
    generalize numbersF (joinedF (fun _ => true) m l') m = N at *
    generalize joinedF (fun _ => true) m l' = J at *
    have hoe : exp expFuel (accNH (outF m l' 0 l')) (accN 0 (outF m l' 0 l')) = some (outN (outF m l' 0 l')) := exp_accN _ 38
    refine rn_rule (fn := Try.f3) (code := bodyOf Try.f3) ok3 Try.func3 (by kernel_rfl) (Nat.le_of_ble_eq_true (by kernel_rfl)) ?_
    simp (decide := true) (implicitDefEqProofs := false) only [Am.findLoop, Am.loopOf, Am.bodyOf, Am.firstReg, Nat.beq, cond_true, cond_false, Am.splice, Am.walkW, Am.stdW, id, reduceCtorEq, Nat.reduceAdd, Nat.reduceSub, Nat.reduceMul, List.forall_mem_cons, List.forall_mem_nil, false_implies, implies_true, Try.f3, factsOf3, hfact, hlen, d1, hc, hb, hge, hck, hqe, hqr]
    simp only [holds_bind]
    refine (law_loop m hm q l' hq' hok hl _ _ _ _ sl1 sl3 (0, []) _ ⟨by omega, by simp⟩ ?_).mono ?_
    · obtain ⟨c1, c2, c3, c4, c5, c6, c7⟩ := sl3.ids
      show maskK (hints.keep 3 14) _ _ = _
      simp (decide := true) (implicitDefEqProofs := false) only [Am.findLoop, Am.loopOf, Am.bodyOf, Am.firstReg, Nat.beq, cond_true, cond_false, Am.splice, Am.walkW, Am.stdW, id, reduceCtorEq, Nat.reduceAdd, Nat.reduceSub, Nat.reduceMul, List.forall_mem_cons, List.forall_mem_nil, false_implies, implies_true, Try.f3, factsOf3, keep3_14, canonLaw, accN, accNH, a1, a2, a3, a4, a5, a6, a7, c1, c2, c3, c7, Am.compactK, Am.idsT, Am.closeStep, Am.keepW, Am.kstdW]
      rfl
    · rintro ⟨e, s'⟩ ⟨h5, h6⟩
      cases h5
      rw [keepB3_0] at h6
      simp only [List.drop_zero, List.nil_append] at h6
      have o1 := fun H => sl3.plain.exp (H := H)
      have o2 := fun H => sl3.rch (H := H)
      have o3 := fun H => sl2.plain.exp (H := H)
      have o4 := fun H => sl2.rch (H := H)
      rw [matC_eq] at hnm
      simp (decide := true) (implicitDefEqProofs := false) only [Am.findLoop, Am.loopOf, Am.bodyOf, Am.firstReg, Nat.beq, cond_true, cond_false, Am.splice, Am.walkW, Am.stdW, id, reduceCtorEq, Nat.reduceAdd, Nat.reduceSub, Nat.reduceMul, List.forall_mem_cons, List.forall_mem_nil, false_implies, implies_true, Try.f3, factsOf3, h6, hj, hnm, he1, he2, hqe, hqr, o1, o2, o3, o4, hoe, exp40_func, rch40_func, matC_eq]
  · have hc := comp_bad q l hq n hB
    have hb := br_bad q l hq n hB
    have hB' : decide (graphCheck n l = 0) = false := decide_eq_false hB
    have hln := fun H => len_nils (P := Try.prog) (H := H) slZ24
    have w0 : IntKind.i64.wrap ((0 : Int) + 0) = 0 := by decide
    have hAll : (decide (10 < n) && decide (n < 25) && decide ((l.length : Int) < 65)) = false := by
      cases h : (decide (10 < n) && decide (n < 25) && decide ((l.length : Int) < 65)) with
      | false => rfl
      | true => simp only [Bool.and_eq_true, decide_eq_true_eq] at h; exact absurd ⟨h.1.1, h.1.2, h.2⟩ hA
    generalize hd1 : decide (10 < n) = d1 at hAll
    generalize hd2 : decide (n < 25) = d2 at hAll
    generalize hd3 : decide ((l.length : Int) < 65) = d3 at hAll
    refine rn_rule (fn := Try.f3) (code := bodyOf Try.f3) ok3 Try.func3 (by kernel_rfl) (Nat.le_of_ble_eq_true (by kernel_rfl)) ?_
    cases d1 with
    | false => simp (decide := true) (implicitDefEqProofs := false) only [Am.findLoop, Am.loopOf, Am.bodyOf, Am.firstReg, Nat.beq, cond_true, cond_false, Am.splice, Am.walkW, Am.stdW, id, reduceCtorEq, Nat.reduceAdd, Nat.reduceSub, Nat.reduceMul, List.forall_mem_cons, List.forall_mem_nil, false_implies, implies_true, Try.f3, factsOf3, hfact, hlen, hd1, hc, hb, hge, hck, hqe, hqr, hB', hln, w0]
    | true =>
      cases d2 with
      | false => simp (decide := true) (implicitDefEqProofs := false) only [Am.findLoop, Am.loopOf, Am.bodyOf, Am.firstReg, Nat.beq, cond_true, cond_false, Am.splice, Am.walkW, Am.stdW, id, reduceCtorEq, Nat.reduceAdd, Nat.reduceSub, Nat.reduceMul, List.forall_mem_cons, List.forall_mem_nil, false_implies, implies_true, Try.f3, factsOf3, hfact, hlen, hd1, hd2, hc, hb, hge, hck, hqe, hqr, hB', hln, w0]
      | true =>
        cases d3 with
        | false => simp (decide := true) (implicitDefEqProofs := false) only [Am.findLoop, Am.loopOf, Am.bodyOf, Am.firstReg, Nat.beq, cond_true, cond_false, Am.splice, Am.walkW, Am.stdW, id, reduceCtorEq, Nat.reduceAdd, Nat.reduceSub, Nat.reduceMul, List.forall_mem_cons, List.forall_mem_nil, false_implies, implies_true, Try.f3, factsOf3, hfact, hlen, hd1, hd2, hd3, hc, hb, hge, hck, hqe, hqr, hB', hln, w0]
        | true => cases hAll

/-! from the evaluator to the statement -/
def tyGE : Am.Ty := .slice (.agg [.int .i64, .int .i64]) 16
theorem tys_law : omap (tyOf Try.prog 20) Try.f3.params.toList = some [.int .i64, tyGE] := by kernel_rfl
theorem edge_get (c : List PV) (h : HasTy (.agg [.int .i64, .int .i64]) c) : ∃ x : Int × Int, c = enc2 x ∧ True := by
  simp only [HasTy, HasTys] at h
  obtain ⟨_, _, rfl, ⟨a, rfl, ha⟩, _, _, rfl, ⟨b, rfl, _⟩, rfl⟩ := h
  exact ⟨(a, b), rfl, trivial⟩
theorem law_eval (qs : List PV) (h : HasArgs [.int .i64, tyGE] qs) : ∃ n H', (evalF Try.prog hints n).rn 3 qs [] = some (.bool true, H') := by
  simp only [HasArgs] at h
  obtain ⟨p, _, rfl, h1, q, _, rfl, h2, rfl⟩ := h
  obtain ⟨n, rfl, _⟩ := arg_int h1
  obtain ⟨l, hl, _⟩ := arg_slice edge_get h2
  obtain ⟨⟨v, H'⟩, hr, hv⟩ := law_run q l hl n
  simp only at hv
  subst hv
  obtain ⟨k, hk⟩ := lim_evalF hr
  exact ⟨k, H', hk⟩
open Go.ChangeShapes Go.WideShapes Go.ChangeAt Go.RowKit
theorem law_lifted (os : Os) (started : os.Started) (H : Type) (enc : TypeId × Value → H) :
    ReturnsInHanded {} Try.checked os 3 .any (Rows.graphPartsSpec.pre6 enc Try.prog Try.f3 Rows.graphPartsRow.domain false) (Rows.graphPartsSpec.post enc Try.prog Try.f3 false true false false) := by
  refine returnsInHanded_of_change_sized (C := Try.checked) own0 started (by kernel_rfl) Try.func3
    (ChangeSpec.witness6 (enc := enc) (C := Try.checked) false ⟨#[], #[.int .i64 0, .slice none 0 0], []⟩ 8 (by kernel_rfl) (by kernel_rfl) (by kernel_rfl) (by kernel_rfl)) ?_
  intro W base args ds gs before hval hW _ hsz _
  exact law_contract (fn := Try.f3) (s := Rows.graphPartsSpec) (tb := 4) static prims laidOut0 rfl (by kernel_rfl) Try.underlying4 (of_decide_eq_true (by kernel_rfl)) tys_law law_eval (by
    intro ds hds
    have h3 : Try.f3.params.size = 2 := by kernel_rfl
    rw [h3] at hds
    match ds, hds with
    | [_, _], _ => rfl) hval hW hsz
theorem graphParts_holds : Rows.GraphPartsSaid :=
  OpenClaim.holds_of_wide 3 Try.f3 rfl rfl rfl rfl rfl rfl rfl ⟨rfl, rfl, rfl, rfl, rfl⟩ rfl rfl rfl rfl rfl (by kernel_rfl) Try.func3 (by kernel_rfl)
    (of_decide_eq_true (by kernel_rfl)) (by unfold Func.isWrapper; first | (rw [if_pos (by decide +kernel)]; kernel_rfl) | (rw [if_neg (by decide +kernel)]; exact ⟨rfl, rfl⟩))
    (fun os started H enc _ => law_lifted os started H enc)
end Go.Proofs.Ytcclbkkgpcpikaa

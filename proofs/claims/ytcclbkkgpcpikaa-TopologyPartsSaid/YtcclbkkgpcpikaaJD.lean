/-
  For every network the law 'TopologyParts' returns true, and its argument reads afterwards as before. Conditions: none beyond the given statement's.
-/
import Derived.Test.YtcclbkkgpcpikaaJC
import Derived.Test.YtcclbkkgpcpikaaGD
import Derived.Test.YtcclbkkgpcpikaaH4
import Derived.Test.YtcclbkkgpcpikaaTop
set_option linter.unusedSimpArgs false
set_option linter.unusedVariables false
namespace Go.Proofs.Ytcclbkkgpcpikaa
open Go.Am
set_option maxRecDepth 100000
theorem topologyFact_call : pureCall hints L1 28 [] = some (.bool true) := by
  simp only [pureCall, prim28, factOf, Option.bind_some]; rfl
set_option maxHeartbeats 16000000 in
theorem topo_run (n : Net) (q0 q1 q2 q3 q4 q5 : PV) (hq : NetQ n q0 q1 q2 q3 q4 q5) : Holds (L1.rn 6 [.agg [q0, q1, q2, q3, q4, q5]] []) (fun r => r.1 = .bool true) := by
  have hfact := topologyFact_call
  have hne := hq.exp
  have hnr := hq.rch
  have hge := netError_call n q0 q1 q2 q3 q4 q5 hq
  by_cases h0 : netE n = 0
  · have hv := vnet h0
    have hof := of_ok n q0 q1 q2 q3 q4 q5 hq h0
    have hlv := live_ok n q0 q1 q2 q3 q4 q5 hq h0
    have hrt := rtop_call n q0 q1 q2 q3 q4 q5 hq hv
    rw [h0] at hge
    unfold topV at hof
    have hBl := (bus_num hv).1
    have hIl := (isle_num hv).1
    have hml := many_le hv
    have hln := hv.ln
    have hil := isle_le hv
    have hmo : mostI n ≤ 100 := by
      rcases mostF_hit (isleF n) 0 with h | ⟨x, hx, h⟩
      · rw [mostI, h]; omega
      · rw [mostI, h]; have := hil x hx; omega
    have hll : (liveF n).length = mostI n := by rw [liveF, markL_len, markL_len, List.length_replicate]
    have hmc := most_call (.lst ((isleF n).map encN)) (isleF n) (.inr rfl) (by omega) (fun x hx => by have := hil x hx; omega)
    rw [show mostF 0 (isleF n) = mostI n from rfl] at hmc
    have s1 : Sl (.lst ((busF n).map encN)) (((busF n).map Int.ofNat).map encI) := by rw [encI_N]; exact .inr rfl
    have s2 : Sl (outN (busF n)) (((busF n).map Int.ofNat).map encI) := by rw [encI_N]; exact outN_sl' _
    have s3 : Sl (.lst ((isleF n).map encN)) (((isleF n).map Int.ofNat).map encI) := by rw [encI_N]; exact .inr rfl
    have e1 := equal_call _ _ _ _ s1 s2 (by simp; omega)
    have e2 := equal_call _ _ _ _ s3 s3 (by simp; omega)
    rw [decide_eq_true rfl] at e1 e2
    have oe := fun H => (outN_sl' (busF n)).plain.exp (H := H)
    have ont : noTup (outN (busF n)) = some (outN (busF n)) := by cases busF n <;> rfl
    have hlb := fun H => len_lst (P := Try.prog) (H := H) slZ30 ((liveF n).map encT)
    rw [List.length_map, hll] at hlb
    have fN := hq.no
    unfold rowN at fN
    have fU := topU_flat n
    refine rn_rule (fn := Try.f6) (code := bodyOf Try.f6) ok6 Try.func6 (by kernel_rfl) (Nat.le_of_ble_eq_true (by kernel_rfl)) ?_
    simp (decide := true) (implicitDefEqProofs := false) only [Am.findLoop, Am.loopOf, Am.bodyOf, Am.firstReg, Nat.beq, cond_true, cond_false, Am.splice, Am.walkW, Am.stdW, id, reduceCtorEq, Nat.reduceAdd, Nat.reduceSub, Nat.reduceMul, List.forall_mem_cons, List.forall_mem_nil, false_implies, implies_true, Try.f6, factsOf6, hfact, hof, hlv, hrt, hge, hne, hnr, hmc, e1, e2, oe, hlb, freeze_nil]
    simp only [holds_bind]
    refine (law_out n q0 q1 q2 q3 q4 q5 hq h0 hll (by omega) 0 _ (by omega) ?_).mono ?_
    · show maskK (hints.keep 6 12) _ _ = _
      simp (decide := true) (implicitDefEqProofs := false) only [Am.findLoop, Am.loopOf, Am.bodyOf, Am.firstReg, Nat.beq, cond_true, cond_false, Am.splice, Am.walkW, Am.stdW, id, reduceCtorEq, Nat.reduceAdd, Nat.reduceSub, Nat.reduceMul, List.forall_mem_cons, List.forall_mem_nil, false_implies, implies_true, Try.f6, factsOf6, keep6_12, canonQ12, rowN, topU, fN, fU, Am.compactK, Am.idsT, Am.closeStep, Am.keepW, Am.kstdW]
      rfl
    · rintro ⟨e, s'⟩ ⟨h5, h6⟩
      cases h5
      rw [keepB6_0] at h6
      simp (decide := true) (implicitDefEqProofs := false) only [Am.findLoop, Am.loopOf, Am.bodyOf, Am.firstReg, Nat.beq, cond_true, cond_false, Am.splice, Am.walkW, Am.stdW, id, reduceCtorEq, Nat.reduceAdd, Nat.reduceSub, Nat.reduceMul, List.forall_mem_cons, List.forall_mem_nil, false_implies, implies_true, Try.f6, factsOf6, h6]
  · have hof := of_bad n q0 q1 q2 q3 q4 q5 hq h0
    have hlv := live_bad n q0 q1 q2 q3 q4 q5 hq h0
    have h0' : decide (netE n = 0) = false := decide_eq_false h0
    have hl24 := fun H => len_nils (P := Try.prog) (H := H) slZ24
    have hl30 := fun H => len_nils (P := Try.prog) (H := H) slZ30
    have w0 : IntKind.i64.wrap ((0 : Int) + 0) = 0 := by decide
    refine rn_rule (fn := Try.f6) (code := bodyOf Try.f6) ok6 Try.func6 (by kernel_rfl) (Nat.le_of_ble_eq_true (by kernel_rfl)) ?_
    simp (decide := true) (implicitDefEqProofs := false) only [Am.findLoop, Am.loopOf, Am.bodyOf, Am.firstReg, Nat.beq, cond_true, cond_false, Am.splice, Am.walkW, Am.stdW, id, reduceCtorEq, Nat.reduceAdd, Nat.reduceSub, Nat.reduceMul, List.forall_mem_cons, List.forall_mem_nil, false_implies, implies_true, Try.f6, factsOf6, hfact, hof, hlv, hge, hne, hnr, h0', hl24, hl30, w0, freeze_nil]
/-! from the evaluator to the statement -/
def tyI : Am.Ty := .int .i64
def tySw : Am.Ty := .agg [.str, .str, .str, .bool, .bool]
def tyBr : Am.Ty := .agg [.str, .str, .str, tyI, tyI, tyI, tyI, tyI, tyI]
def tyGn : Am.Ty := .agg [.str, .str, tyI, tyI, tyI]
def tyLd : Am.Ty := .agg [.str, .str, tyI]
def tySo : Am.Ty := .agg [.str, .str, tyI, tyI, tyI]
def tyNet : Am.Ty := .agg [.slice .str 16, .slice tySw 56, .slice tyBr 96, .slice tyGn 56, .slice tyLd 40, .slice tySo 56]
theorem tys_law : omap (tyOf Try.prog 20) Try.f6.params.toList = some [tyNet] := by kernel_rfl
theorem str_get (c : List PV) (h : HasTy .str c) : ∃ s, c = encS s ∧ s.size ≤ reachBytes := by
  simp only [HasTy] at h
  obtain ⟨s, rfl, hs⟩ := h
  exact ⟨s, rfl, hs⟩
theorem sw_get (c : List PV) (h : HasTy tySw c) : ∃ x, c = encSw x ∧ x.name.size ≤ reachBytes := by
  simp only [tySw, HasTy, HasTys] at h
  obtain ⟨_, _, rfl, ⟨a, rfl, ha⟩, _, _, rfl, ⟨b, rfl, _⟩, _, _, rfl, ⟨d, rfl, _⟩, _, _, rfl, ⟨e, rfl⟩, _, _, rfl, ⟨f, rfl⟩, rfl⟩ := h
  exact ⟨⟨a, b, d, e, f⟩, rfl, ha⟩
theorem br_get (c : List PV) (h : HasTy tyBr c) : ∃ x, c = encB x ∧ x.name.size ≤ reachBytes := by
  simp only [tyBr, tyI, HasTy, HasTys] at h
  obtain ⟨_, _, rfl, ⟨a, rfl, ha⟩, _, _, rfl, ⟨b, rfl, _⟩, _, _, rfl, ⟨d, rfl, _⟩, _, _, rfl, ⟨e, rfl, _⟩, _, _, rfl, ⟨f, rfl, _⟩, _, _, rfl, ⟨g, rfl, _⟩, _, _, rfl, ⟨i, rfl, _⟩, _, _, rfl, ⟨j, rfl, _⟩, _, _, rfl, ⟨k, rfl, _⟩, rfl⟩ := h
  exact ⟨⟨a, b, d, e, f, g, i, j, k⟩, rfl, ha⟩
theorem gn_get (c : List PV) (h : HasTy tyGn c) : ∃ x, c = encGn x ∧ x.name.size ≤ reachBytes := by
  simp only [tyGn, tyI, HasTy, HasTys] at h
  obtain ⟨_, _, rfl, ⟨a, rfl, ha⟩, _, _, rfl, ⟨b, rfl, _⟩, _, _, rfl, ⟨e, rfl, _⟩, _, _, rfl, ⟨f, rfl, _⟩, _, _, rfl, ⟨g, rfl, _⟩, rfl⟩ := h
  exact ⟨⟨a, b, e, f, g⟩, rfl, ha⟩
theorem ld_get (c : List PV) (h : HasTy tyLd c) : ∃ x, c = encLd x ∧ x.name.size ≤ reachBytes := by
  simp only [tyLd, tyI, HasTy, HasTys] at h
  obtain ⟨_, _, rfl, ⟨a, rfl, ha⟩, _, _, rfl, ⟨b, rfl, _⟩, _, _, rfl, ⟨e, rfl, _⟩, rfl⟩ := h
  exact ⟨⟨a, b, e⟩, rfl, ha⟩
theorem so_get (c : List PV) (h : HasTy tySo c) : ∃ x, c = encSo x ∧ x.name.size ≤ reachBytes := by
  simp only [tySo, tyI, HasTy, HasTys] at h
  obtain ⟨_, _, rfl, ⟨a, rfl, ha⟩, _, _, rfl, ⟨b, rfl, _⟩, _, _, rfl, ⟨e, rfl, _⟩, _, _, rfl, ⟨f, rfl, _⟩, _, _, rfl, ⟨g, rfl, _⟩, rfl⟩ := h
  exact ⟨⟨a, b, e, f, g⟩, rfl, ha⟩
theorem net_get (p : PV) (h : HasArg tyNet p) : ∃ n q0 q1 q2 q3 q4 q5, p = .agg [q0, q1, q2, q3, q4, q5] ∧ NetQ n q0 q1 q2 q3 q4 q5 := by
  simp only [tyNet, HasArg, HasTys] at h
  obtain ⟨_, rfl, _, _, rfl, h0, _, _, rfl, h1, _, _, rfl, h2, _, _, rfl, h3, _, _, rfl, h4, _, _, rfl, h5, rfl⟩ := h
  obtain ⟨q0, l0, rfl, s0, z0, _⟩ := slice_get str_get h0
  obtain ⟨q1, l1, rfl, s1, z1, _⟩ := slice_get sw_get h1
  obtain ⟨q2, l2, rfl, s2, z2, _⟩ := slice_get br_get h2
  obtain ⟨q3, l3, rfl, s3, z3, _⟩ := slice_get gn_get h3
  obtain ⟨q4, l4, rfl, s4, z4, _⟩ := slice_get ld_get h4
  obtain ⟨q5, l5, rfl, s5, z5, _⟩ := slice_get so_get h5
  exact ⟨⟨l0, l1, l2, l3, l4, l5⟩, q0, q1, q2, q3, q4, q5, rfl, ⟨s0, s1, s2, s3, s4, s5, z0, z1, z2, z3, z4, z5⟩⟩
theorem law_eval (qs : List PV) (h : HasArgs [tyNet] qs) : ∃ n H', (evalF Try.prog hints n).rn 6 qs [] = some (.bool true, H') := by
  simp only [HasArgs] at h
  obtain ⟨p, _, rfl, h1, rfl⟩ := h
  obtain ⟨n, q0, q1, q2, q3, q4, q5, rfl, hq⟩ := net_get p h1
  obtain ⟨⟨v, H'⟩, hr, hv⟩ := topo_run n q0 q1 q2 q3 q4 q5 hq
  simp only at hv
  subst hv
  obtain ⟨k, hk⟩ := lim_evalF hr
  exact ⟨k, H', hk⟩
open Go.ChangeShapes Go.WideShapes Go.ChangeAt Go.RowKit
theorem law_lifted (os : Os) (started : os.Started) (H : Type) (enc : TypeId × Value → H) :
    ReturnsInHanded {} Try.checked os 6 .any (Rows.topologyPartsSpec.pre6 enc Try.prog Try.f6 Rows.topologyPartsRow.domain false) (Rows.topologyPartsSpec.post enc Try.prog Try.f6 false true false false) := by
  refine returnsInHanded_of_change_sized (C := Try.checked) own0 started (by kernel_rfl) Try.func6
    (ChangeSpec.witness6 (enc := enc) (C := Try.checked) false ⟨#[], #[.agg #[.slice none 0 0, .slice none 0 0, .slice none 0 0, .slice none 0 0, .slice none 0 0, .slice none 0 0]], []⟩ 8 (by kernel_rfl) (by kernel_rfl) (by kernel_rfl) (by kernel_rfl)) ?_
  intro W base args ds gs before hval hW _ hsz _
  exact law_contract (fn := Try.f6) (s := Rows.topologyPartsSpec) (tb := 4) static prims laidOut0 rfl (by kernel_rfl) Try.underlying4 (of_decide_eq_true (by kernel_rfl)) tys_law law_eval (by
    intro ds hds
    have h3 : Try.f6.params.size = 1 := by kernel_rfl
    rw [h3] at hds
    match ds, hds with
    | [_], _ => rfl) hval hW hsz
theorem topologyParts_holds : Rows.TopologyPartsSaid :=
  OpenClaim.holds_of_wide 6 Try.f6 rfl rfl rfl rfl rfl rfl rfl ⟨rfl, rfl, rfl, rfl, rfl⟩ rfl rfl rfl rfl rfl (by kernel_rfl) Try.func6 (by kernel_rfl)
    (of_decide_eq_true (by kernel_rfl)) (by unfold Func.isWrapper; first | (rw [if_pos (by decide +kernel)]; kernel_rfl) | (rw [if_neg (by decide +kernel)]; exact ⟨rfl, rfl⟩))
    (fun os started H enc _ => law_lifted os started H enc)
end Go.Proofs.Ytcclbkkgpcpikaa

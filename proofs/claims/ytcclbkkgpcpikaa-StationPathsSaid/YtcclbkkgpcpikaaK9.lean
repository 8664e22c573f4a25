import Derived.Test.YtcclbkkgpcpikaaK8
import Derived.Test.YtcclbkkgpcpikaaK5
import Derived.Test.YtcclbkkgpcpikaaJ9
import Derived.Test.YtcclbkkgpcpikaaI6
set_option linter.unusedSimpArgs false
set_option linter.unusedVariables false
namespace Go.Proofs.Ytcclbkkgpcpikaa
open Go.Am
set_option maxRecDepth 100000
/-! a list of texts equals itself -/
noncomputable def canonEs (p q : PV) (len i : Nat) : St := ⟨[(0, p), (1, q), (12, .int .i64 len), (13, .int .i64 i)], []⟩
def postEs (r : Ex × St) : Prop := r.1 = .exit 0 ∧ maskK (hints.keepB 41 0) ⟨41, 0, 26⟩ r.2 = some ⟨[], []⟩
theorem getStr {l : List ByteArray} {i : Nat} (h : i < l.length) : (l.map encS)[i]? = some [.str l[i]] := by rw [List.getElem?_map, List.getElem?_eq_getElem h]; rfl
set_option maxHeartbeats 4000000 in
theorem equalS_loop (p q : PV) (x : List ByteArray) (hp : Sl p (x.map encS)) (hq : Sl q (x.map encS)) (hl : x.length ≤ 1000000) : ∀ (i : Nat) (t : St), i ≤ x.length →
    maskK (hints.keep 41 (firstReg (loopOf Try.f41 4))) ⟨41, 0, 26⟩ t = some (canonEs p q x.length i) →
    Holds (L1.ex ⟨41, 0, 26⟩ (.loop (loopOf Try.f41 4)) t) postEs := by
  refine loop_rule (σ := Nat) (c := ⟨41, 0, 26⟩) (b := loopOf Try.f41 4) (canonEs p q x.length) (fun i => i ≤ x.length) (fun i => x.length - i) (fun _ => postEs) ?_
  intro i hi
  obtain ⟨a1, a2, a3, a4, a5, a6, a7⟩ := hp.ids
  obtain ⟨b1, b2, b3, b4, b5, b6, b7⟩ := hq.ids
  by_cases hlt : i < x.length
  · have hix := fun H => index_sl (P := Try.prog) (H := H) hp slZ41 (k := .i64) (j := i) (by omega) (getStr (l := x) (i := (i : Int).toNat) (by simpa using hlt)) rfl
    have hiy := fun H => index_sl (P := Try.prog) (H := H) hq slZ41 (k := .i64) (j := i) (by omega) (getStr (l := x) (i := (i : Int).toNat) (by simpa using hlt)) rfl
    simp only [Int.toNat_natCast] at hix hiy
    have hlt' : decide ((i : Int) < x.length) = true := decide_eq_true (by omega)
    have hw : IntKind.i64.wrap ((i : Int) + 1) = ((i + 1 : Nat) : Int) := wrap64 (by omega) (by omega)
    generalize x[i] = u at hix hiy
    have c' : (u.data.toList == u.data.toList) = true := by simp
    simp (decide := true) (implicitDefEqProofs := false) only [Am.findLoop, Am.loopOf, Am.bodyOf, Am.firstReg, Nat.beq, cond_true, cond_false, Am.splice, Am.walkW, Am.stdW, id, reduceCtorEq, Nat.reduceAdd, Nat.reduceSub, Nat.reduceMul, List.forall_mem_cons, List.forall_mem_nil, false_implies, implies_true, Try.f41, factsOf41, canonEs, hix, hiy, hlt', c', hw, keep41_4, a1, a2, a3, a4, a5, a6, a7, b1, b2, b3, b4, b5, b6, b7, Am.compactK, Am.idsT, Am.closeStep, Am.keepW, Am.kstdW]
    exact ⟨i + 1, rfl, hlt, by omega, fun r hr => hr⟩
  · have hlt' : decide ((i : Int) < x.length) = false := decide_eq_false (by omega)
    simp (decide := true) (implicitDefEqProofs := false) only [Am.findLoop, Am.loopOf, Am.bodyOf, Am.firstReg, Nat.beq, cond_true, cond_false, Am.splice, Am.walkW, Am.stdW, id, reduceCtorEq, Nat.reduceAdd, Nat.reduceSub, Nat.reduceMul, List.forall_mem_cons, List.forall_mem_nil, false_implies, implies_true, Try.f41, factsOf41, canonEs, hlt', a7, b7]
    refine ⟨rfl, ?_⟩
    simp (decide := true) (implicitDefEqProofs := false) only [Am.findLoop, Am.loopOf, Am.bodyOf, Am.firstReg, Nat.beq, cond_true, cond_false, Am.splice, Am.walkW, Am.stdW, id, reduceCtorEq, Nat.reduceAdd, Nat.reduceSub, Nat.reduceMul, List.forall_mem_cons, List.forall_mem_nil, false_implies, implies_true, Try.f41, factsOf41, Am.compactK, Am.idsT, Am.closeStep, Am.keepW, Am.kstdW]
set_option maxHeartbeats 4000000 in
theorem equalS_call (p q : PV) (x : List ByteArray) (hp : Sl p (x.map encS)) (hq : Sl q (x.map encS)) (hl : x.length ≤ 1000000) : pureCall hints L1 41 [p, q] = some (.bool true) := by
  refine pure_of prim41 (Holds.mono (Q := fun r => r.1 = .bool true) ?_ fun r hr => by rw [hr]; rfl)
  have hlx := fun H => len_sl (P := Try.prog) (H := H) hp slZ41
  have hly := fun H => len_sl (P := Try.prog) (H := H) hq slZ41
  rw [List.length_map] at hlx hly
  obtain ⟨a1, a2, a3, a4, a5, a6, a7⟩ := hp.ids
  obtain ⟨b1, b2, b3, b4, b5, b6, b7⟩ := hq.ids
  refine rn_rule (fn := Try.f41) (code := bodyOf Try.f41) ok41 Try.func41 (by kernel_rfl) (Nat.le_of_ble_eq_true (by kernel_rfl)) ?_
  simp (decide := true) (implicitDefEqProofs := false) only [Am.findLoop, Am.loopOf, Am.bodyOf, Am.firstReg, Nat.beq, cond_true, cond_false, Am.splice, Am.walkW, Am.stdW, id, reduceCtorEq, Nat.reduceAdd, Nat.reduceSub, Nat.reduceMul, List.forall_mem_cons, List.forall_mem_nil, false_implies, implies_true, Try.f41, factsOf41, hlx, hly]
  simp only [holds_bind]
  refine (equalS_loop p q x hp hq hl 0 _ (by omega) ?_).mono ?_
  · show maskK (hints.keep 41 4) _ _ = _
    simp (decide := true) (implicitDefEqProofs := false) only [Am.findLoop, Am.loopOf, Am.bodyOf, Am.firstReg, Nat.beq, cond_true, cond_false, Am.splice, Am.walkW, Am.stdW, id, reduceCtorEq, Nat.reduceAdd, Nat.reduceSub, Nat.reduceMul, List.forall_mem_cons, List.forall_mem_nil, false_implies, implies_true, Try.f41, factsOf41, keep41_4, canonEs, a1, a2, a3, a4, a5, a6, a7, b1, b2, b3, b4, b5, b6, b7, Am.compactK, Am.idsT, Am.closeStep, Am.keepW, Am.kstdW]
    rfl
  · rintro ⟨e, s'⟩ ⟨h5, h6⟩
    cases h5
    rw [keepB41_0] at h6
    simp (decide := true) (implicitDefEqProofs := false) only [Am.findLoop, Am.loopOf, Am.bodyOf, Am.firstReg, Nat.beq, cond_true, cond_false, Am.splice, Am.walkW, Am.stdW, id, reduceCtorEq, Nat.reduceAdd, Nat.reduceSub, Nat.reduceMul, List.forall_mem_cons, List.forall_mem_nil, false_implies, implies_true, Try.f41, factsOf41, h6]
theorem outS_sl (l : List ByteArray) : Sl (outG encS l) (l.map encS) := by
  cases l with
  | nil => exact .inl ⟨rfl, rfl⟩
  | cons x r => exact .inr rfl
/-! the plain law -/
def usedB (n : Net) (op : Bool) (i : Nat) : Bool := match n.sw[i]? with
  | some x => x.opn == op
  | none => false
theorem usedB_c (n : Net) : usedB n false = usedC n := by
  funext i
  unfold usedB usedC
  cases n.sw[i]? with
  | none => rfl
  | some x => cases hx : x.opn <;> simp [hx]
theorem usedB_o (n : Net) : usedB n true = usedO n := by
  funext i
  unfold usedB usedO
  cases n.sw[i]? with
  | none => rfl
  | some x => cases hx : x.opn <;> simp [hx]
theorem edgL_filt (n : Net) (op : Bool) (f : (Nat × Nat) → (Nat × Nat)) : ∀ (l : List Sw) (i : Nat), (∀ k, n.sw[i + k]? = l[k]?) → (edgL n op i l).map (fun x => (f x.1, x.2)) = filtP (usedB n op) i (l.map fun x => f (swE n x))
  | [], i, _ => rfl
  | x :: r, i, h => by
    have h0 := h 0
    rw [Nat.add_zero, List.getElem?_cons_zero] at h0
    have ih := edgL_filt n op f r (i + 1) (fun k => by have := h (k + 1); rw [List.getElem?_cons_succ] at this; rw [← this]; congr 1; omega)
    have hu : usedB n op i = (x.opn == op) := by unfold usedB; rw [h0]
    rw [edgL, List.map_cons, filtP, hu]
    by_cases hx : x.opn = op
    · rw [if_pos hx, if_pos (by simpa using hx), List.map_cons, ih]
    · rw [if_neg hx, if_neg (by simpa using hx), ih]
theorem edgA_filt (n : Net) (op : Bool) : edgA n op = filtP (usedB n op) 0 (swL n) := by
  have := edgL_filt n op id n.sw 0 (fun k => by rw [Nat.zero_add])
  have e : (fun x : (Nat × Nat) × Nat => (id x.1, x.2)) = id := rfl
  rw [e, List.map_id] at this
  exact this
theorem edgA_busP (n : Net) (op : Bool) : (edgA n op).map (busP n) = filtP (usedB n op) 0 ((swL n).map (busE n)) := by
  have := edgL_filt n op (busE n) n.sw 0 (fun k => by rw [Nat.zero_add])
  rw [swL, List.map_map]
  exact this
/-- What the reference's first way is, and what the program's. -/
theorem path_law {n : Net} (hv : VNet n) {fr to : Nat} (hfr : fr < n.nodes.length) (hto : to < n.nodes.length) :
    shortR (usedC n) n.nodes.length (swL n) fr to = ((wayR n.nodes.length (closedL n) fr to).1, (wayR n.nodes.length (closedL n) fr to).2.map fun k => (atL n false).getD k 0) := by
  have h1 := short_filt (swL_ok hv) (usedC n) hfr hto
  rw [← usedB_c, ← edgA_filt] at h1
  have h2 := way_short (l := closedL n) (hv.ln) (edgA_ok hv false).1 hfr hto
  rw [h2, ← usedB_c, h1]
  rfl
theorem busE_ok {n : Net} (hv : VNet n) {m : Nat} (hm : ∀ i, i < n.nodes.length → (busF n).getD i 0 < m) : okL m ((swL n).map (busE n)) := by
  intro x hx
  obtain ⟨y, hy, rfl⟩ := List.mem_map.1 hx
  have := swL_ok hv y hy
  exact ⟨hm _ this.1, hm _ this.2⟩
theorem busF_lt {n : Net} (hv : VNet n) {i : Nat} (hi : i < n.nodes.length) : (busF n).getD i 0 < manyF n := by
  have hl := (bus_num hv).1
  rw [getD_get (by omega : i < (busF n).length)]
  exact (mostF_ge (busF n) 0).2 _ (List.getElem_mem _)
theorem join_law {n : Net} (hv : VNet n) {x y : Nat} (hx : x < n.nodes.length) (hy : y < n.nodes.length) :
    shortR (usedO n) (manyF n) ((swL n).map (busE n)) ((busF n).getD x 0) ((busF n).getD y 0) =
      ((wayR n.nodes.length (joinL n) ((busF n).getD x 0) ((busF n).getD y 0)).1, (wayR n.nodes.length (joinL n) ((busF n).getD x 0) ((busF n).getD y 0)).2.map fun k => (atL n true).getD k 0) := by
  have hml := many_le hv
  have bx := busF_lt hv hx
  have by_ := busF_lt hv hy
  have hln := hv.ln
  have ok1 := busE_ok hv (m := manyF n) (fun i hi => busF_lt hv hi)
  have h1 := short_filt ok1 (usedO n) bx by_
  rw [← usedB_o, ← edgA_busP] at h1
  have ok2 : okL (manyF n) (joinL n) := by
    intro z hz
    obtain ⟨w, hw, rfl⟩ := List.mem_map.1 hz
    rw [edgA_busP] at hw
    obtain ⟨j, h3, _⟩ := (filtP_mem _ w.1 _ 0).1 ⟨w.2, hw⟩
    exact ok1 _ (List.mem_of_getElem? h3)
  have h2 := way_short (l := joinL n) hln (joinL_ok hv) (show (busF n).getD x 0 < n.nodes.length by omega) (show (busF n).getD y 0 < n.nodes.length by omega)
  have h3 := short_wide ok2 hml (by omega) bx by_
  rw [h2, ← usedB_o, h1, h3]
  have h4 : ((edgA n true).map (busP n)).map (·.2) = atL n true := by
    unfold atL
    rw [List.map_map]; rfl
  rw [h4]
  rfl
end Go.Proofs.Ytcclbkkgpcpikaa

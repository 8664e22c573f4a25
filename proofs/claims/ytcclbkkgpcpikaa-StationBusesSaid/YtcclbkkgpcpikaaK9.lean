import Derived.Test.YtcclbkkgpcpikaaK4
import Derived.Test.YtcclbkkgpcpikaaJ6
import Derived.Test.YtcclbkkgpcpikaaI6
set_option linter.unusedSimpArgs false
set_option linter.unusedVariables false
namespace Go.Proofs.Ytcclbkkgpcpikaa
open Go.Am
set_option maxRecDepth 100000
/-! a list of texts equals itself -/
noncomputable def canonEs (p q : PV) (len i : Nat) : St := ⟨[(0, p), (1, q), (12, .int .i64 len), (13, .int .i64 i)], []⟩
def postEs (r : Ex × St) : Prop := r.1 = .exit 0 ∧ maskK (hints.keepB 41 0) ⟨41, 0, 26⟩ r.2 = some ⟨[], []⟩
theorem getStr {l : List ByteArray} {i : Nat} (h : i < l.length) : (l.map encS)[i]? = some [.str l[i]] := by rw [List.getElem?_map, List.getElem?_eq_getElem h]; rfl
set_option maxHeartbeats 4000000 in
theorem equalS_loop (p q : PV) (x : List ByteArray) (hp : Sl p (x.map encS)) (hq : Sl q (x.map encS)) (hl : x.length ≤ 1000000) : ∀ (i : Nat) (t : St), i ≤ x.length →
    maskK (hints.keep 41 (firstReg (loopOf Try.f41 4))) ⟨41, 0, 26⟩ t = some (canonEs p q x.length i) →
    Holds (L1.ex ⟨41, 0, 26⟩ (.loop (loopOf Try.f41 4)) t) postEs := by
  refine loop_rule (σ := Nat) (c := ⟨41, 0, 26⟩) (b := loopOf Try.f41 4) (canonEs p q x.length) (fun i => i ≤ x.length) (fun i => x.length - i) (fun _ => postEs) ?_
  intro i hi
  obtain ⟨a1, a2, a3, a4, a5, a6, a7⟩ := hp.ids
  obtain ⟨b1, b2, b3, b4, b5, b6, b7⟩ := hq.ids
  by_cases hlt : i < x.length
  · have hix := fun H => index_sl (P := Try.prog) (H := H) hp slZ41 (k := .i64) (j := i) (by omega) (getStr (l := x) (i := (i : Int).toNat) (by simpa using hlt)) rfl
    have hiy := fun H => index_sl (P := Try.prog) (H := H) hq slZ41 (k := .i64) (j := i) (by omega) (getStr (l := x) (i := (i : Int).toNat) (by simpa using hlt)) rfl
    simp only [Int.toNat_natCast] at hix hiy
    have hlt' : decide ((i : Int) < x.length) = true := decide_eq_true (by omega)
    have hw : IntKind.i64.wrap ((i : Int) + 1) = ((i + 1 : Nat) : Int) := wrap64 (by omega) (by omega)
    generalize x[i] = u at hix hiy
    have c' : (u.data.toList == u.data.toList) = true := by simp
    simp (decide := true) (implicitDefEqProofs := false) only [Am.findLoop, Am.loopOf, Am.bodyOf, Am.firstReg, Nat.beq, cond_true, cond_false, Am.splice, Am.walkW, Am.stdW, id, reduceCtorEq, Nat.reduceAdd, Nat.reduceSub, Nat.reduceMul, List.forall_mem_cons, List.forall_mem_nil, false_implies, implies_true, Try.f41, factsOf41, canonEs, hix, hiy, hlt', c', hw, keep41_4, a1, a2, a3, a4, a5, a6, a7, b1, b2, b3, b4, b5, b6, b7, Am.compactK, Am.idsT, Am.closeStep, Am.keepW, Am.kstdW]
    exact ⟨i + 1, rfl, hlt, by omega, fun r hr => hr⟩
  · have hlt' : decide ((i : Int) < x.length) = false := decide_eq_false (by omega)
    simp (decide := true) (implicitDefEqProofs := false) only [Am.findLoop, Am.loopOf, Am.bodyOf, Am.firstReg, Nat.beq, cond_true, cond_false, Am.splice, Am.walkW, Am.stdW, id, reduceCtorEq, Nat.reduceAdd, Nat.reduceSub, Nat.reduceMul, List.forall_mem_cons, List.forall_mem_nil, false_implies, implies_true, Try.f41, factsOf41, canonEs, hlt', a7, b7]
    refine ⟨rfl, ?_⟩
    simp (decide := true) (implicitDefEqProofs := false) only [Am.findLoop, Am.loopOf, Am.bodyOf, Am.firstReg, Nat.beq, cond_true, cond_false, Am.splice, Am.walkW, Am.stdW, id, reduceCtorEq, Nat.reduceAdd, Nat.reduceSub, Nat.reduceMul, List.forall_mem_cons, List.forall_mem_nil, false_implies, implies_true, Try.f41, factsOf41, Am.compactK, Am.idsT, Am.closeStep, Am.keepW, Am.kstdW]
set_option maxHeartbeats 4000000 in
theorem equalS_call (p q : PV) (x : List ByteArray) (hp : Sl p (x.map encS)) (hq : Sl q (x.map encS)) (hl : x.length ≤ 1000000) : pureCall hints L1 41 [p, q] = some (.bool true) := by
  refine pure_of prim41 (Holds.mono (Q := fun r => r.1 = .bool true) ?_ fun r hr => by rw [hr]; rfl)
  have hlx := fun H => len_sl (P := Try.prog) (H := H) hp slZ41
  have hly := fun H => len_sl (P := Try.prog) (H := H) hq slZ41
  rw [List.length_map] at hlx hly
  obtain ⟨a1, a2, a3, a4, a5, a6, a7⟩ := hp.ids
  obtain ⟨b1, b2, b3, b4, b5, b6, b7⟩ := hq.ids
  refine rn_rule (fn := Try.f41) (code := bodyOf Try.f41) ok41 Try.func41 (by kernel_rfl) (Nat.le_of_ble_eq_true (by kernel_rfl)) ?_
  simp (decide := true) (implicitDefEqProofs := false) only [Am.findLoop, Am.loopOf, Am.bodyOf, Am.firstReg, Nat.beq, cond_true, cond_false, Am.splice, Am.walkW, Am.stdW, id, reduceCtorEq, Nat.reduceAdd, Nat.reduceSub, Nat.reduceMul, List.forall_mem_cons, List.forall_mem_nil, false_implies, implies_true, Try.f41, factsOf41, hlx, hly]
  simp only [holds_bind]
  refine (equalS_loop p q x hp hq hl 0 _ (by omega) ?_).mono ?_
  · show maskK (hints.keep 41 4) _ _ = _
    simp (decide := true) (implicitDefEqProofs := false) only [Am.findLoop, Am.loopOf, Am.bodyOf, Am.firstReg, Nat.beq, cond_true, cond_false, Am.splice, Am.walkW, Am.stdW, id, reduceCtorEq, Nat.reduceAdd, Nat.reduceSub, Nat.reduceMul, List.forall_mem_cons, List.forall_mem_nil, false_implies, implies_true, Try.f41, factsOf41, keep41_4, canonEs, a1, a2, a3, a4, a5, a6, a7, b1, b2, b3, b4, b5, b6, b7, Am.compactK, Am.idsT, Am.closeStep, Am.keepW, Am.kstdW]
    rfl
  · rintro ⟨e, s'⟩ ⟨h5, h6⟩
    cases h5
    rw [keepB41_0] at h6
    simp (decide := true) (implicitDefEqProofs := false) only [Am.findLoop, Am.loopOf, Am.bodyOf, Am.firstReg, Nat.beq, cond_true, cond_false, Am.splice, Am.walkW, Am.stdW, id, reduceCtorEq, Nat.reduceAdd, Nat.reduceSub, Nat.reduceMul, List.forall_mem_cons, List.forall_mem_nil, false_implies, implies_true, Try.f41, factsOf41, h6]
theorem outS_sl (l : List ByteArray) : Sl (outG encS l) (l.map encS) := by
  cases l with
  | nil => exact .inl ⟨rfl, rfl⟩
  | cons x r => exact .inr rfl
/-! the plain law -/
end Go.Proofs.Ytcclbkkgpcpikaa

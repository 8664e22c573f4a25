import Derived.Test.YtcclbkkgpcpikaaFn
set_option linter.unusedSimpArgs false
set_option linter.unusedVariables false
namespace Go.Proofs.Ytcclbkkgpcpikaa
open Go.Am
set_option maxRecDepth 100000
def enc2 (x : Int × Int) : List PV := [.int .i64 x.1, .int .i64 x.2]
def inR (n : Int) (x : Int × Int) : Bool := decide (0 ≤ x.1) && decide (x.1 < n) && decide (0 ≤ x.2) && decide (x.2 < n)
noncomputable def canon13 (n : Int) (q : PV) (len i : Nat) : St := ⟨[(0, .int .i64 n), (18, q), (19, .int .i64 len), (20, .int .i64 i)], []⟩
def post13 (n : Int) (l : List (Int × Int)) (i : Nat) (r : Ex × St) : Prop :=
  if (l.drop i).all (inR n) = true then r.1 = .exit 0 else r.1 = .ret ∧ Am.get r.2.tm 4 = some (.int .i64 4)
theorem post13_bad {n : Int} {l : List (Int × Int)} {i : Nat} (hi : i < l.length) (hb : inR n l[i] = false) {s : St} (hs : Am.get s.tm 4 = some (.int .i64 4)) : post13 n l i (.ret, s) := by
  unfold post13
  rw [List.drop_eq_getElem_cons hi, List.all_cons, hb]
  exact ⟨rfl, hs⟩
theorem post13_next {n : Int} {l : List (Int × Int)} {i : Nat} (hi : i < l.length) (hb : inR n l[i] = true) {r : Ex × St} (h : post13 n l (i + 1) r) : post13 n l i r := by
  unfold post13 at h ⊢
  rw [List.drop_eq_getElem_cons hi, List.all_cons, hb]
  exact h
set_option maxHeartbeats 1000000 in
theorem loop13 (q : PV) (l : List (Int × Int)) (hq : Sl q (l.map enc2)) (n : Int) (hl : l.length ≤ 1000) : ∀ (i : Nat) (s : St), i ≤ l.length → maskK (hints.keep 13 (firstReg (loopOf Try.f13 4))) ⟨13, 0, 45⟩ s = some (canon13 n q l.length i) →
    Holds ((lim Try.prog hints).ex ⟨13, 0, 45⟩ (.loop (loopOf Try.f13 4)) s) (post13 n l i) := by
  refine loop_rule (c := ⟨13, 0, 45⟩) (b := loopOf Try.f13 4) (canon13 n q l.length) (fun i => i ≤ l.length) (fun i => l.length - i) (post13 n l) ?_
  intro i hi
  have hf := hq.flat
  by_cases hlt : i < l.length
  · obtain ⟨⟨a, b⟩, hx⟩ : ∃ x, l[i] = x := ⟨_, rfl⟩
    have hget : (l.map enc2)[(i : Int).toNat]? = some [.int .i64 a, .int .i64 b] := by simp [hlt, hx, enc2]
    have hix := fun H => index_sl (P := Try.prog) (H := H) hq slZ22 (k := .i64) (j := i) (by omega) hget rfl
    have hlt' : (i : Int) < l.length := by omega
    by_cases h1 : a < 0
    · simp (decide := true) only [canon13, Am.findLoop, Am.loopOf, Am.bodyOf, Am.firstReg, Nat.beq, cond_true, cond_false, Am.splice, Am.walkW, Am.stdW, id, reduceCtorEq, Nat.reduceAdd, Nat.reduceSub, Nat.reduceMul, List.forall_mem_cons, List.forall_mem_nil, false_implies, implies_true, Try.f13, factsOf13, hix, hlt', h1]
      exact post13_bad hlt (by simp [inR, hx]; omega) rfl
    by_cases h2 : n ≤ a
    · simp (decide := true) only [canon13, Am.findLoop, Am.loopOf, Am.bodyOf, Am.firstReg, Nat.beq, cond_true, cond_false, Am.splice, Am.walkW, Am.stdW, id, reduceCtorEq, Nat.reduceAdd, Nat.reduceSub, Nat.reduceMul, List.forall_mem_cons, List.forall_mem_nil, false_implies, implies_true, Try.f13, factsOf13, hix, hlt', h1, h2]
      exact post13_bad hlt (by simp [inR, hx]; omega) rfl
    by_cases h3 : b < 0
    · simp (decide := true) only [canon13, Am.findLoop, Am.loopOf, Am.bodyOf, Am.firstReg, Nat.beq, cond_true, cond_false, Am.splice, Am.walkW, Am.stdW, id, reduceCtorEq, Nat.reduceAdd, Nat.reduceSub, Nat.reduceMul, List.forall_mem_cons, List.forall_mem_nil, false_implies, implies_true, Try.f13, factsOf13, hix, hlt', h1, h2, h3]
      exact post13_bad hlt (by simp [inR, hx]; omega) rfl
    by_cases h4 : n ≤ b
    · simp (decide := true) only [canon13, Am.findLoop, Am.loopOf, Am.bodyOf, Am.firstReg, Nat.beq, cond_true, cond_false, Am.splice, Am.walkW, Am.stdW, id, reduceCtorEq, Nat.reduceAdd, Nat.reduceSub, Nat.reduceMul, List.forall_mem_cons, List.forall_mem_nil, false_implies, implies_true, Try.f13, factsOf13, hix, hlt', h1, h2, h3, h4]
      exact post13_bad hlt (by simp [inR, hx]; omega) rfl
    · have hw : IntKind.i64.wrap ((i : Int) + 1) = ((i + 1 : Nat) : Int) := wrap64 (by omega) (by omega)
      simp (decide := true) only [canon13, Am.findLoop, Am.loopOf, Am.bodyOf, Am.firstReg, Nat.beq, cond_true, cond_false, Am.splice, Am.walkW, Am.stdW, id, reduceCtorEq, Nat.reduceAdd, Nat.reduceSub, Nat.reduceMul, List.forall_mem_cons, List.forall_mem_nil, false_implies, implies_true, Try.f13, factsOf13, hix, hlt', h1, h2, h3, h4, hf, hw, keep13_4]
      exact ⟨i + 1, rfl, hlt, by omega, fun r hr => post13_next hlt (by simp [inR, hx]; omega) hr⟩
  · have hlt' : ¬ (i : Int) < l.length := by omega
    simp (decide := true) only [canon13, Am.findLoop, Am.loopOf, Am.bodyOf, Am.firstReg, Nat.beq, cond_true, cond_false, Am.splice, Am.walkW, Am.stdW, id, reduceCtorEq, Nat.reduceAdd, Nat.reduceSub, Nat.reduceMul, List.forall_mem_cons, List.forall_mem_nil, false_implies, implies_true, Try.f13, factsOf13, hlt']
    simp [post13, List.drop_eq_nil_of_le (by omega : l.length ≤ i)]
def graphCheck (n : Int) (l : List (Int × Int)) : Int := if n < 0 ∨ 24 < n ∨ 64 < l.length then 2 else if l.all (inR n) then 0 else 4
set_option maxHeartbeats 1000000 in
theorem gcheck_run (q : PV) (l : List (Int × Int)) (hq : Sl q (l.map enc2)) (n : Int) : Holds ((lim Try.prog hints).rn 13 [.int .i64 n, q] []) (fun r => r.1 = .int .i64 (graphCheck n l)) := by
  refine rn_rule (fn := Try.f13) (code := bodyOf Try.f13) ok13 Try.func13 (by kernel_rfl) (Nat.le_of_ble_eq_true (by kernel_rfl)) ?_
  have hlen := fun H => len_sl (P := Try.prog) (H := H) hq slZ22
  rw [List.length_map] at hlen
  have hf := hq.flat
  by_cases h1 : n < 0
  · simp (decide := true) only [Am.findLoop, Am.loopOf, Am.bodyOf, Am.firstReg, Nat.beq, cond_true, cond_false, Am.splice, Am.walkW, Am.stdW, id, reduceCtorEq, Nat.reduceAdd, Nat.reduceSub, Nat.reduceMul, List.forall_mem_cons, List.forall_mem_nil, false_implies, implies_true, Try.f13, factsOf13, hlen, h1, graphCheck, true_or]
  by_cases h2 : 24 < n
  · simp (decide := true) only [Am.findLoop, Am.loopOf, Am.bodyOf, Am.firstReg, Nat.beq, cond_true, cond_false, Am.splice, Am.walkW, Am.stdW, id, reduceCtorEq, Nat.reduceAdd, Nat.reduceSub, Nat.reduceMul, List.forall_mem_cons, List.forall_mem_nil, false_implies, implies_true, Try.f13, factsOf13, hlen, h1, h2, graphCheck, true_or, or_true]
  by_cases h3 : 64 < l.length
  · have h3' : (64 : Int) < l.length := by omega
    simp (decide := true) only [Am.findLoop, Am.loopOf, Am.bodyOf, Am.firstReg, Nat.beq, cond_true, cond_false, Am.splice, Am.walkW, Am.stdW, id, reduceCtorEq, Nat.reduceAdd, Nat.reduceSub, Nat.reduceMul, List.forall_mem_cons, List.forall_mem_nil, false_implies, implies_true, Try.f13, factsOf13, hlen, h1, h2, h3, h3', graphCheck, true_or, or_true]
  · have h3' : ¬ (64 : Int) < l.length := by omega
    simp (decide := true) only [Am.findLoop, Am.loopOf, Am.bodyOf, Am.firstReg, Nat.beq, cond_true, cond_false, Am.splice, Am.walkW, Am.stdW, id, reduceCtorEq, Nat.reduceAdd, Nat.reduceSub, Nat.reduceMul, List.forall_mem_cons, List.forall_mem_nil, false_implies, implies_true, Try.f13, factsOf13, hlen, h1, h2, h3, h3', graphCheck]
    rw [holds_bind, holds_bind]
    refine (loop13 q l hq n (by omega) 0 _ (by omega) ?_).mono ?_
    · show maskK (hints.keep 13 4) _ _ = _
      simp (decide := true) only [Am.splice, Am.walkW, Am.stdW, id, reduceCtorEq, Nat.reduceAdd, Nat.reduceSub, Nat.reduceMul, List.forall_mem_cons, List.forall_mem_nil, false_implies, implies_true, Try.f13, factsOf13, keep13_4, hf, canon13]
      rfl
    · rintro ⟨e, s'⟩ hp
      unfold post13 at hp
      rw [List.drop_zero] at hp
      by_cases hall : l.all (inR n) = true
      · rw [if_pos hall] at hp
        cases hp
        simp (decide := true) only [Am.splice, Am.walkW, Am.stdW, id, reduceCtorEq, Nat.reduceAdd, Nat.reduceSub, Nat.reduceMul, List.forall_mem_cons, List.forall_mem_nil, false_implies, implies_true, Try.f13, factsOf13, hall]
      · rw [if_neg hall] at hp
        obtain ⟨h5, h6⟩ := hp
        cases h5
        simp (decide := true) only [Am.splice, Am.walkW, Am.stdW, id, reduceCtorEq, Nat.reduceAdd, Nat.reduceSub, Nat.reduceMul, List.forall_mem_cons, List.forall_mem_nil, false_implies, implies_true, Try.f13, factsOf13, h6, hall]
end Go.Proofs.Ytcclbkkgpcpikaa

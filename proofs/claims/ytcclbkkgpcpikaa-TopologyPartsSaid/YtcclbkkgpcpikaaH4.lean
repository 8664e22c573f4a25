import Derived.Test.YtcclbkkgpcpikaaH2
set_option linter.unusedSimpArgs false
set_option linter.unusedVariables false
namespace Go.Proofs.Ytcclbkkgpcpikaa
open Go.Am
set_option maxRecDepth 100000
/-! the reference's check of a graph -/
noncomputable def ixV : Fin 3 → PV
  | 0 => .int .i64 0
  | 1 => .int .i64 1
  | 2 => .int .i64 2
noncomputable def canonGi (n : Int) (q : PV) (len k : Nat) (a b : Int) (j : Fin 3) : St := ⟨[(0, .int .i64 n), (20, q), (21, .int .i64 len), (22, .int .i64 k), (26, .agg [.int .i64 a, .int .i64 b]), (27, ixV j)], []⟩
noncomputable def canonG (n : Int) (q : PV) (len k : Nat) : St := ⟨[(0, .int .i64 n), (20, q), (21, .int .i64 len), (22, .int .i64 k)], []⟩
def inOne (n x : Int) : Bool := decide (0 ≤ x) && decide (x < n)
def okFrom (n a b : Int) : Fin 3 → Bool
  | 0 => inOne n a && inOne n b
  | 1 => inOne n b
  | 2 => true
def postGi (n : Int) (q : PV) (len k : Nat) (ok : Bool) (r : Ex × St) : Prop :=
  if ok = true then r.1 = .exit 2 ∧ maskK (hints.keepB 12 2) ⟨12, 0, 39⟩ r.2 = some (canonG n q len k) else r.1 = .ret ∧ Am.get r.2.tm 4 = some (.int .i64 4)
set_option maxHeartbeats 4000000 in
theorem graphError_inner (n : Int) (q : PV) (es : List (List PV)) (hq : Sl q es) (len k : Nat) (a b : Int) : ∀ (j : Fin 3) (t : St), True →
    maskK (hints.keep 12 (firstReg (loopOf Try.f12 7))) ⟨12, 0, 39⟩ t = some (canonGi n q len k a b j) →
    Holds (L1.ex ⟨12, 0, 39⟩ (.loop (loopOf Try.f12 7)) t) (postGi n q len k (okFrom n a b j)) := by
  refine loop_rule (σ := Fin 3) (c := ⟨12, 0, 39⟩) (b := loopOf Try.f12 7) (canonGi n q len k a b) (fun _ => True) (fun j => 3 - j.val) _ ?_
  obtain ⟨a1, a2, a3, a4, a5, a6, a7⟩ := hq.ids
  have w1 : IntKind.i64.wrap ((0 : Int) + 1) = 1 := by decide
  have w2 : IntKind.i64.wrap ((1 : Int) + 1) = 2 := by decide
  have one : ∀ {x : Int}, inOne n x = true → decide (x < 0) = false ∧ decide (n ≤ x) = false := by
    intro x hx
    simp only [inOne, Bool.and_eq_true, decide_eq_true_eq] at hx
    exact ⟨decide_eq_false (by omega), decide_eq_false (by omega)⟩
  intro j _
  match j with
  | 0 =>
    by_cases h1 : inOne n a = true
    · have h2 := one h1
      simp (decide := true) (implicitDefEqProofs := false) only [Am.findLoop, Am.loopOf, Am.bodyOf, Am.firstReg, Nat.beq, cond_true, cond_false, Am.splice, Am.walkW, Am.stdW, id, reduceCtorEq, Nat.reduceAdd, Nat.reduceSub, Nat.reduceMul, List.forall_mem_cons, List.forall_mem_nil, false_implies, implies_true, Try.f12, factsOf12, canonGi, ixV, h2.1, h2.2, w1, keep12_7, a1, a2, a3, a4, a5, a6, a7, Am.compactK, Am.idsT, Am.closeStep, Am.keepW, Am.kstdW]
      exact ⟨1, rfl, by decide, fun r hr => by rw [show okFrom n a b 0 = okFrom n a b 1 by simp only [okFrom, h1, Bool.true_and]]; exact hr⟩
    · have e : okFrom n a b 0 = false := by simp only [okFrom, Bool.not_eq_true] at h1 ⊢; rw [h1]; rfl
      by_cases h3 : a < 0
      · have h3' : decide (a < 0) = true := decide_eq_true h3
        simp (decide := true) (implicitDefEqProofs := false) only [Am.findLoop, Am.loopOf, Am.bodyOf, Am.firstReg, Nat.beq, cond_true, cond_false, Am.splice, Am.walkW, Am.stdW, id, reduceCtorEq, Nat.reduceAdd, Nat.reduceSub, Nat.reduceMul, List.forall_mem_cons, List.forall_mem_nil, false_implies, implies_true, Try.f12, factsOf12, canonGi, ixV, h3']
        rw [e]; exact ⟨rfl, rfl⟩
      · have h3' : decide (a < 0) = false := decide_eq_false h3
        have h4' : decide (n ≤ a) = true := by simp only [inOne, Bool.not_eq_true, Bool.and_eq_false_iff, decide_eq_false_iff_not] at h1; exact decide_eq_true (by omega)
        simp (decide := true) (implicitDefEqProofs := false) only [Am.findLoop, Am.loopOf, Am.bodyOf, Am.firstReg, Nat.beq, cond_true, cond_false, Am.splice, Am.walkW, Am.stdW, id, reduceCtorEq, Nat.reduceAdd, Nat.reduceSub, Nat.reduceMul, List.forall_mem_cons, List.forall_mem_nil, false_implies, implies_true, Try.f12, factsOf12, canonGi, ixV, h3', h4']
        rw [e]; exact ⟨rfl, rfl⟩
  | 1 =>
    by_cases h1 : inOne n b = true
    · have h2 := one h1
      simp (decide := true) (implicitDefEqProofs := false) only [Am.findLoop, Am.loopOf, Am.bodyOf, Am.firstReg, Nat.beq, cond_true, cond_false, Am.splice, Am.walkW, Am.stdW, id, reduceCtorEq, Nat.reduceAdd, Nat.reduceSub, Nat.reduceMul, List.forall_mem_cons, List.forall_mem_nil, false_implies, implies_true, Try.f12, factsOf12, canonGi, ixV, h2.1, h2.2, w2, keep12_7, a1, a2, a3, a4, a5, a6, a7, Am.compactK, Am.idsT, Am.closeStep, Am.keepW, Am.kstdW]
      exact ⟨2, rfl, by decide, fun r hr => by rw [show okFrom n a b 1 = okFrom n a b 2 from h1]; exact hr⟩
    · have e : okFrom n a b 1 = false := by simp only [okFrom, Bool.not_eq_true] at h1 ⊢; exact h1
      by_cases h3 : b < 0
      · have h3' : decide (b < 0) = true := decide_eq_true h3
        simp (decide := true) (implicitDefEqProofs := false) only [Am.findLoop, Am.loopOf, Am.bodyOf, Am.firstReg, Nat.beq, cond_true, cond_false, Am.splice, Am.walkW, Am.stdW, id, reduceCtorEq, Nat.reduceAdd, Nat.reduceSub, Nat.reduceMul, List.forall_mem_cons, List.forall_mem_nil, false_implies, implies_true, Try.f12, factsOf12, canonGi, ixV, h3']
        rw [e]; exact ⟨rfl, rfl⟩
      · have h3' : decide (b < 0) = false := decide_eq_false h3
        have h4' : decide (n ≤ b) = true := by simp only [inOne, Bool.not_eq_true, Bool.and_eq_false_iff, decide_eq_false_iff_not] at h1; exact decide_eq_true (by omega)
        simp (decide := true) (implicitDefEqProofs := false) only [Am.findLoop, Am.loopOf, Am.bodyOf, Am.firstReg, Nat.beq, cond_true, cond_false, Am.splice, Am.walkW, Am.stdW, id, reduceCtorEq, Nat.reduceAdd, Nat.reduceSub, Nat.reduceMul, List.forall_mem_cons, List.forall_mem_nil, false_implies, implies_true, Try.f12, factsOf12, canonGi, ixV, h3', h4']
        rw [e]; exact ⟨rfl, rfl⟩
  | 2 =>
    simp (decide := true) (implicitDefEqProofs := false) only [Am.findLoop, Am.loopOf, Am.bodyOf, Am.firstReg, Nat.beq, cond_true, cond_false, Am.splice, Am.walkW, Am.stdW, id, reduceCtorEq, Nat.reduceAdd, Nat.reduceSub, Nat.reduceMul, List.forall_mem_cons, List.forall_mem_nil, false_implies, implies_true, Try.f12, factsOf12, canonGi, ixV]
    refine ⟨rfl, ?_⟩
    simp (decide := true) (implicitDefEqProofs := false) only [Am.findLoop, Am.loopOf, Am.bodyOf, Am.firstReg, Nat.beq, cond_true, cond_false, Am.splice, Am.walkW, Am.stdW, id, reduceCtorEq, Nat.reduceAdd, Nat.reduceSub, Nat.reduceMul, List.forall_mem_cons, List.forall_mem_nil, false_implies, implies_true, Try.f12, factsOf12, canonG, a1, a2, a3, a4, a5, a6, a7, Am.compactK, Am.idsT, Am.closeStep, Am.keepW, Am.kstdW]
theorem inR_one (n a b : Int) : inR n (a, b) = okFrom n a b 0 := by simp only [inR, okFrom, inOne, Bool.and_assoc]
def postG (n : Int) (ok : Bool) (r : Ex × St) : Prop := if ok = true then r.1 = .exit 0 ∧ maskK (hints.keepB 12 0) ⟨12, 0, 39⟩ r.2 = some ⟨[], []⟩ else r.1 = .ret ∧ Am.get r.2.tm 4 = some (.int .i64 4)
set_option maxHeartbeats 4000000 in
theorem graphError_loop (n : Int) (q : PV) (l : List (Int × Int)) (hq : Sl q (l.map enc2)) (hl : l.length ≤ 1000) : ∀ (k : Nat) (t : St), k ≤ l.length →
    maskK (hints.keep 12 (firstReg (loopOf Try.f12 4))) ⟨12, 0, 39⟩ t = some (canonG n q l.length k) →
    Holds (L1.ex ⟨12, 0, 39⟩ (.loop (loopOf Try.f12 4)) t) (postG n ((l.drop k).all (inR n))) := by
  refine loop_rule (σ := Nat) (c := ⟨12, 0, 39⟩) (b := loopOf Try.f12 4) (canonG n q l.length) (fun k => k ≤ l.length) (fun k => l.length - k) _ ?_
  intro k hk
  obtain ⟨a1, a2, a3, a4, a5, a6, a7⟩ := hq.ids
  by_cases hlt : k < l.length
  · obtain ⟨⟨a, b⟩, hx⟩ : ∃ x, l[k] = x := ⟨_, rfl⟩
    have hget : (l.map enc2)[(k : Int).toNat]? = some [.int .i64 a, .int .i64 b] := by simp [hlt, hx, enc2]
    have hix := fun H => index_sl (P := Try.prog) (H := H) hq slZ22 (k := .i64) (j := k) (by omega) hget rfl
    have hlt' : decide ((k : Int) < l.length) = true := decide_eq_true (by omega)
    have hw : IntKind.i64.wrap ((k : Int) + 1) = ((k + 1 : Nat) : Int) := wrap64 (by omega) (by omega)
    have hdr : (l.drop k).all (inR n) = (okFrom n a b 0 && (l.drop (k + 1)).all (inR n)) := by rw [List.drop_eq_getElem_cons hlt, List.all_cons, hx, inR_one]
    rw [hdr]
    simp (decide := true) (implicitDefEqProofs := false) only [Am.findLoop, Am.loopOf, Am.bodyOf, Am.firstReg, Nat.beq, cond_true, cond_false, Am.splice, Am.walkW, Am.stdW, id, reduceCtorEq, Nat.reduceAdd, Nat.reduceSub, Nat.reduceMul, List.forall_mem_cons, List.forall_mem_nil, false_implies, implies_true, Try.f12, factsOf12, canonG, hix, hlt', a7]
    simp only [holds_bind]
    refine (graphError_inner n q _ hq l.length k a b 0 _ trivial ?_).mono ?_
    · show maskK (hints.keep 12 7) _ _ = _
      simp (decide := true) (implicitDefEqProofs := false) only [Am.findLoop, Am.loopOf, Am.bodyOf, Am.firstReg, Nat.beq, cond_true, cond_false, Am.splice, Am.walkW, Am.stdW, id, reduceCtorEq, Nat.reduceAdd, Nat.reduceSub, Nat.reduceMul, List.forall_mem_cons, List.forall_mem_nil, false_implies, implies_true, Try.f12, factsOf12, keep12_7, canonGi, ixV, a1, a2, a3, a4, a5, a6, a7, Am.compactK, Am.idsT, Am.closeStep, Am.keepW, Am.kstdW]
    · rintro ⟨e, s'⟩ hp
      unfold postGi at hp
      cases ho : okFrom n a b 0 with
      | true =>
        rw [if_pos ho] at hp
        obtain ⟨h5, h6⟩ := hp
        cases h5
        rw [keepB12_2] at h6
        simp (decide := true) (implicitDefEqProofs := false) only [Am.findLoop, Am.loopOf, Am.bodyOf, Am.firstReg, Nat.beq, cond_true, cond_false, Am.splice, Am.walkW, Am.stdW, id, reduceCtorEq, Nat.reduceAdd, Nat.reduceSub, Nat.reduceMul, List.forall_mem_cons, List.forall_mem_nil, false_implies, implies_true, Try.f12, factsOf12, h6, canonG, hw, keep12_4, a1, a2, a3, a4, a5, a6, a7, Am.compactK, Am.idsT, Am.closeStep, Am.keepW, Am.kstdW]
        exact ⟨k + 1, rfl, hlt, by omega, fun r hr => hr⟩
      | false =>
        rw [if_neg (by rw [ho]; simp)] at hp
        obtain ⟨h5, h6⟩ := hp
        cases h5
        simp (decide := true) (implicitDefEqProofs := false) only [Am.findLoop, Am.loopOf, Am.bodyOf, Am.firstReg, Nat.beq, cond_true, cond_false, Am.splice, Am.walkW, Am.stdW, id, reduceCtorEq, Nat.reduceAdd, Nat.reduceSub, Nat.reduceMul, List.forall_mem_cons, List.forall_mem_nil, false_implies, implies_true, Try.f12, factsOf12, h6]
        rw [Bool.false_and]
        exact ⟨rfl, h6⟩
  · have hlt' : decide ((k : Int) < l.length) = false := decide_eq_false (by omega)
    simp (decide := true) (implicitDefEqProofs := false) only [Am.findLoop, Am.loopOf, Am.bodyOf, Am.firstReg, Nat.beq, cond_true, cond_false, Am.splice, Am.walkW, Am.stdW, id, reduceCtorEq, Nat.reduceAdd, Nat.reduceSub, Nat.reduceMul, List.forall_mem_cons, List.forall_mem_nil, false_implies, implies_true, Try.f12, factsOf12, canonG, hlt', a7]
    rw [List.drop_eq_nil_of_le (by omega)]
    refine ⟨rfl, ?_⟩
    simp (decide := true) (implicitDefEqProofs := false) only [Am.findLoop, Am.loopOf, Am.bodyOf, Am.firstReg, Nat.beq, cond_true, cond_false, Am.splice, Am.walkW, Am.stdW, id, reduceCtorEq, Nat.reduceAdd, Nat.reduceSub, Nat.reduceMul, List.forall_mem_cons, List.forall_mem_nil, false_implies, implies_true, Try.f12, factsOf12, Am.compactK, Am.idsT, Am.closeStep, Am.keepW, Am.kstdW]
set_option maxHeartbeats 4000000 in
theorem graphError_call (q : PV) (l : List (Int × Int)) (hq : Sl q (l.map enc2)) (n : Int) : pureCall hints L1 12 [.int .i64 n, q] = some (.int .i64 (graphCheck n l)) := by
  refine pure_of prim12 (Holds.mono (Q := fun r => r.1 = .int .i64 (graphCheck n l)) ?_ fun r hr => by rw [hr]; rfl)
  have hlen := fun H => len_sl (P := Try.prog) (H := H) hq slZ22
  rw [List.length_map] at hlen
  obtain ⟨a1, a2, a3, a4, a5, a6, a7⟩ := hq.ids
  refine rn_rule (fn := Try.f12) (code := bodyOf Try.f12) ok12 Try.func12 (by kernel_rfl) (Nat.le_of_ble_eq_true (by kernel_rfl)) ?_
  by_cases h1 : n < 0
  · have h1' : decide (n < 0) = true := decide_eq_true h1
    simp (decide := true) (implicitDefEqProofs := false) only [Am.findLoop, Am.loopOf, Am.bodyOf, Am.firstReg, Nat.beq, cond_true, cond_false, Am.splice, Am.walkW, Am.stdW, id, reduceCtorEq, Nat.reduceAdd, Nat.reduceSub, Nat.reduceMul, List.forall_mem_cons, List.forall_mem_nil, false_implies, implies_true, Try.f12, factsOf12, hlen, h1', graphCheck, h1, true_or]
  have h1' : decide (n < 0) = false := decide_eq_false h1
  by_cases h2 : 24 < n
  · have h2' : decide (24 < n) = true := decide_eq_true h2
    simp (decide := true) (implicitDefEqProofs := false) only [Am.findLoop, Am.loopOf, Am.bodyOf, Am.firstReg, Nat.beq, cond_true, cond_false, Am.splice, Am.walkW, Am.stdW, id, reduceCtorEq, Nat.reduceAdd, Nat.reduceSub, Nat.reduceMul, List.forall_mem_cons, List.forall_mem_nil, false_implies, implies_true, Try.f12, factsOf12, hlen, h1', h2', graphCheck, h2, true_or, or_true]
  have h2' : decide (24 < n) = false := decide_eq_false h2
  by_cases h3 : 64 < l.length
  · have h3' : decide ((64 : Int) < l.length) = true := decide_eq_true (by omega)
    simp (decide := true) (implicitDefEqProofs := false) only [Am.findLoop, Am.loopOf, Am.bodyOf, Am.firstReg, Nat.beq, cond_true, cond_false, Am.splice, Am.walkW, Am.stdW, id, reduceCtorEq, Nat.reduceAdd, Nat.reduceSub, Nat.reduceMul, List.forall_mem_cons, List.forall_mem_nil, false_implies, implies_true, Try.f12, factsOf12, hlen, h1', h2', h3', graphCheck, h3, or_true]
  have h3' : decide ((64 : Int) < l.length) = false := decide_eq_false (by omega)
  simp (decide := true) (implicitDefEqProofs := false) only [Am.findLoop, Am.loopOf, Am.bodyOf, Am.firstReg, Nat.beq, cond_true, cond_false, Am.splice, Am.walkW, Am.stdW, id, reduceCtorEq, Nat.reduceAdd, Nat.reduceSub, Nat.reduceMul, List.forall_mem_cons, List.forall_mem_nil, false_implies, implies_true, Try.f12, factsOf12, hlen, h1', h2', h3', graphCheck, h1, h2, h3, or_self]
  simp only [holds_bind]
  refine (graphError_loop n q l hq (by omega) 0 _ (by omega) ?_).mono ?_
  · show maskK (hints.keep 12 4) _ _ = _
    simp (decide := true) (implicitDefEqProofs := false) only [Am.findLoop, Am.loopOf, Am.bodyOf, Am.firstReg, Nat.beq, cond_true, cond_false, Am.splice, Am.walkW, Am.stdW, id, reduceCtorEq, Nat.reduceAdd, Nat.reduceSub, Nat.reduceMul, List.forall_mem_cons, List.forall_mem_nil, false_implies, implies_true, Try.f12, factsOf12, keep12_4, canonG, a1, a2, a3, a4, a5, a6, a7, Am.compactK, Am.idsT, Am.closeStep, Am.keepW, Am.kstdW]
    rfl
  · rintro ⟨e, s'⟩ hp
    unfold postG at hp
    rw [List.drop_zero] at hp
    cases ho : l.all (inR n) with
    | true =>
      rw [if_pos ho] at hp
      obtain ⟨h5, h6⟩ := hp
      cases h5
      rw [keepB12_0] at h6
      simp (decide := true) (implicitDefEqProofs := false) only [Am.findLoop, Am.loopOf, Am.bodyOf, Am.firstReg, Nat.beq, cond_true, cond_false, Am.splice, Am.walkW, Am.stdW, id, reduceCtorEq, Nat.reduceAdd, Nat.reduceSub, Nat.reduceMul, List.forall_mem_cons, List.forall_mem_nil, false_implies, implies_true, Try.f12, factsOf12, h6]
    | false =>
      rw [if_neg (by rw [ho]; simp)] at hp
      obtain ⟨h5, h6⟩ := hp
      cases h5
      simp (decide := true) (implicitDefEqProofs := false) only [Am.findLoop, Am.loopOf, Am.bodyOf, Am.firstReg, Nat.beq, cond_true, cond_false, Am.splice, Am.walkW, Am.stdW, id, reduceCtorEq, Nat.reduceAdd, Nat.reduceSub, Nat.reduceMul, List.forall_mem_cons, List.forall_mem_nil, false_implies, implies_true, Try.f12, factsOf12, h6]
/-! equal lists -/
noncomputable def canonEq (p q : PV) (len i : Nat) : St := ⟨[(0, p), (1, q), (12, .int .i64 len), (13, .int .i64 i)], []⟩
def eqL (x y : List Int) : Bool := decide (x = y)
theorem eqL_cons (u v : Int) (x y : List Int) : eqL (u :: x) (v :: y) = (decide (u = v) && eqL x y) := by
  unfold eqL
  rw [Bool.eq_iff_iff]
  simp
def postEq (b : Bool) (r : Ex × St) : Prop := if b = true then r.1 = .exit 0 ∧ maskK (hints.keepB 16 0) ⟨16, 0, 26⟩ r.2 = some ⟨[], []⟩ else r.1 = .ret ∧ Am.get r.2.tm 4 = some (.bool false)
set_option maxHeartbeats 4000000 in
theorem equal_loop (p q : PV) (x y : List Int) (hp : Sl p (x.map encI)) (hq : Sl q (y.map encI)) (hxy : x.length = y.length) (hl : x.length ≤ 1000000) : ∀ (i : Nat) (t : St), i ≤ x.length →
    maskK (hints.keep 16 (firstReg (loopOf Try.f16 4))) ⟨16, 0, 26⟩ t = some (canonEq p q x.length i) →
    Holds (L1.ex ⟨16, 0, 26⟩ (.loop (loopOf Try.f16 4)) t) (postEq (eqL (x.drop i) (y.drop i))) := by
  refine loop_rule (σ := Nat) (c := ⟨16, 0, 26⟩) (b := loopOf Try.f16 4) (canonEq p q x.length) (fun i => i ≤ x.length) (fun i => x.length - i) _ ?_
  intro i hi
  obtain ⟨a1, a2, a3, a4, a5, a6, a7⟩ := hp.ids
  obtain ⟨b1, b2, b3, b4, b5, b6, b7⟩ := hq.ids
  by_cases hlt : i < x.length
  · have hix := fun H => index_sl (P := Try.prog) (H := H) hp slZ24 (k := .i64) (j := i) (by omega) (getI (l := x) (i := (i : Int).toNat) (by simpa using hlt)) rfl
    have hiy := fun H => index_sl (P := Try.prog) (H := H) hq slZ24 (k := .i64) (j := i) (by omega) (getI (l := y) (i := (i : Int).toNat) (by simp; omega)) rfl
    simp only [Int.toNat_natCast] at hix hiy
    have hlt' : decide ((i : Int) < x.length) = true := decide_eq_true (by omega)
    have hw : IntKind.i64.wrap ((i : Int) + 1) = ((i + 1 : Nat) : Int) := wrap64 (by omega) (by omega)
    have e1 : x.drop i = x[i] :: x.drop (i + 1) := List.drop_eq_getElem_cons hlt
    have e2 : y.drop i = y[i] :: y.drop (i + 1) := List.drop_eq_getElem_cons (by omega)
    rw [e1, e2, eqL_cons]
    generalize x[i] = u at hix
    generalize y[i] = v at hiy
    by_cases c : u = v
    · have c' : decide (u = v) = true := decide_eq_true c
      simp (decide := true) (implicitDefEqProofs := false) only [Am.findLoop, Am.loopOf, Am.bodyOf, Am.firstReg, Nat.beq, cond_true, cond_false, Am.splice, Am.walkW, Am.stdW, id, reduceCtorEq, Nat.reduceAdd, Nat.reduceSub, Nat.reduceMul, List.forall_mem_cons, List.forall_mem_nil, false_implies, implies_true, Try.f16, factsOf16, canonEq, hix, hiy, hlt', c', hw, keep16_4, a1, a2, a3, a4, a5, a6, a7, b1, b2, b3, b4, b5, b6, b7, Am.compactK, Am.idsT, Am.closeStep, Am.keepW, Am.kstdW]
      exact ⟨i + 1, rfl, hlt, by omega, fun r hr => hr⟩
    · have c' : decide (u = v) = false := decide_eq_false c
      simp (decide := true) (implicitDefEqProofs := false) only [Am.findLoop, Am.loopOf, Am.bodyOf, Am.firstReg, Nat.beq, cond_true, cond_false, Am.splice, Am.walkW, Am.stdW, id, reduceCtorEq, Nat.reduceAdd, Nat.reduceSub, Nat.reduceMul, List.forall_mem_cons, List.forall_mem_nil, false_implies, implies_true, Try.f16, factsOf16, canonEq, hix, hiy, hlt', c', hw, keep16_4, a1, a2, a3, a4, a5, a6, a7, b1, b2, b3, b4, b5, b6, b7, Am.compactK, Am.idsT, Am.closeStep, Am.keepW, Am.kstdW]
      rw [Bool.false_and]
      exact ⟨rfl, rfl⟩
  · have hlt' : decide ((i : Int) < x.length) = false := decide_eq_false (by omega)
    simp (decide := true) (implicitDefEqProofs := false) only [Am.findLoop, Am.loopOf, Am.bodyOf, Am.firstReg, Nat.beq, cond_true, cond_false, Am.splice, Am.walkW, Am.stdW, id, reduceCtorEq, Nat.reduceAdd, Nat.reduceSub, Nat.reduceMul, List.forall_mem_cons, List.forall_mem_nil, false_implies, implies_true, Try.f16, factsOf16, canonEq, hlt', a7, b7]
    rw [List.drop_eq_nil_of_le (by omega), List.drop_eq_nil_of_le (by omega)]
    refine ⟨rfl, ?_⟩
    simp (decide := true) (implicitDefEqProofs := false) only [Am.findLoop, Am.loopOf, Am.bodyOf, Am.firstReg, Nat.beq, cond_true, cond_false, Am.splice, Am.walkW, Am.stdW, id, reduceCtorEq, Nat.reduceAdd, Nat.reduceSub, Nat.reduceMul, List.forall_mem_cons, List.forall_mem_nil, false_implies, implies_true, Try.f16, factsOf16, Am.compactK, Am.idsT, Am.closeStep, Am.keepW, Am.kstdW]
set_option maxHeartbeats 4000000 in
theorem equal_call (p q : PV) (x y : List Int) (hp : Sl p (x.map encI)) (hq : Sl q (y.map encI)) (hl : x.length ≤ 1000000) : pureCall hints L1 16 [p, q] = some (.bool (decide (x = y))) := by
  refine pure_of prim16 (Holds.mono (Q := fun r => r.1 = .bool (decide (x = y))) ?_ fun r hr => by rw [hr]; rfl)
  have hlx := fun H => len_sl (P := Try.prog) (H := H) hp slZ24
  have hly := fun H => len_sl (P := Try.prog) (H := H) hq slZ24
  rw [List.length_map] at hlx hly
  obtain ⟨a1, a2, a3, a4, a5, a6, a7⟩ := hp.ids
  obtain ⟨b1, b2, b3, b4, b5, b6, b7⟩ := hq.ids
  refine rn_rule (fn := Try.f16) (code := bodyOf Try.f16) ok16 Try.func16 (by kernel_rfl) (Nat.le_of_ble_eq_true (by kernel_rfl)) ?_
  by_cases h1 : x.length = y.length
  · have h1' : decide ((x.length : Int) = (y.length : Int)) = true := decide_eq_true (by omega)
    simp (decide := true) (implicitDefEqProofs := false) only [Am.findLoop, Am.loopOf, Am.bodyOf, Am.firstReg, Nat.beq, cond_true, cond_false, Am.splice, Am.walkW, Am.stdW, id, reduceCtorEq, Nat.reduceAdd, Nat.reduceSub, Nat.reduceMul, List.forall_mem_cons, List.forall_mem_nil, false_implies, implies_true, Try.f16, factsOf16, hlx, hly, h1']
    simp only [holds_bind]
    refine (equal_loop p q x y hp hq h1 hl 0 _ (by omega) ?_).mono ?_
    · show maskK (hints.keep 16 4) _ _ = _
      simp (decide := true) (implicitDefEqProofs := false) only [Am.findLoop, Am.loopOf, Am.bodyOf, Am.firstReg, Nat.beq, cond_true, cond_false, Am.splice, Am.walkW, Am.stdW, id, reduceCtorEq, Nat.reduceAdd, Nat.reduceSub, Nat.reduceMul, List.forall_mem_cons, List.forall_mem_nil, false_implies, implies_true, Try.f16, factsOf16, keep16_4, canonEq, a1, a2, a3, a4, a5, a6, a7, b1, b2, b3, b4, b5, b6, b7, Am.compactK, Am.idsT, Am.closeStep, Am.keepW, Am.kstdW]
      rfl
    · rintro ⟨e, s'⟩ hp
      unfold postEq at hp
      rw [List.drop_zero, List.drop_zero, eqL] at hp
      by_cases hxy : x = y
      · rw [if_pos (decide_eq_true hxy)] at hp
        obtain ⟨h5, h6⟩ := hp
        cases h5
        rw [keepB16_0] at h6
        simp (decide := true) (implicitDefEqProofs := false) only [Am.findLoop, Am.loopOf, Am.bodyOf, Am.firstReg, Nat.beq, cond_true, cond_false, Am.splice, Am.walkW, Am.stdW, id, reduceCtorEq, Nat.reduceAdd, Nat.reduceSub, Nat.reduceMul, List.forall_mem_cons, List.forall_mem_nil, false_implies, implies_true, Try.f16, factsOf16, h6]
        rw [decide_eq_true hxy]
      · rw [if_neg (by rw [decide_eq_false hxy]; simp)] at hp
        obtain ⟨h5, h6⟩ := hp
        cases h5
        simp (decide := true) (implicitDefEqProofs := false) only [Am.findLoop, Am.loopOf, Am.bodyOf, Am.firstReg, Nat.beq, cond_true, cond_false, Am.splice, Am.walkW, Am.stdW, id, reduceCtorEq, Nat.reduceAdd, Nat.reduceSub, Nat.reduceMul, List.forall_mem_cons, List.forall_mem_nil, false_implies, implies_true, Try.f16, factsOf16, h6]
        rw [decide_eq_false hxy]
  · have h1' : decide ((x.length : Int) = (y.length : Int)) = false := decide_eq_false (by omega)
    simp (decide := true) (implicitDefEqProofs := false) only [Am.findLoop, Am.loopOf, Am.bodyOf, Am.firstReg, Nat.beq, cond_true, cond_false, Am.splice, Am.walkW, Am.stdW, id, reduceCtorEq, Nat.reduceAdd, Nat.reduceSub, Nat.reduceMul, List.forall_mem_cons, List.forall_mem_nil, false_implies, implies_true, Try.f16, factsOf16, hlx, hly, h1']
    rw [decide_eq_false (fun h => h1 (by rw [h]))]
theorem yes_call (k : Int) : pureCall hints L1 18 [.int .i64 k] = some (.bool true) := by
  refine pure_of prim18 (Holds.mono (Q := fun r => r.1 = .bool true) ?_ fun r hr => by rw [hr]; rfl)
  refine rn_rule (fn := Try.f18) (code := bodyOf Try.f18) ok18 Try.func18 (by kernel_rfl) (Nat.le_of_ble_eq_true (by kernel_rfl)) ?_
  simp (decide := true) (implicitDefEqProofs := false) only [Am.findLoop, Am.loopOf, Am.bodyOf, Am.firstReg, Nat.beq, cond_true, cond_false, Am.splice, Am.walkW, Am.stdW, id, reduceCtorEq, Nat.reduceAdd, Nat.reduceSub, Nat.reduceMul, List.forall_mem_cons, List.forall_mem_nil, false_implies, implies_true, Try.f18, factsOf18]
end Go.Proofs.Ytcclbkkgpcpikaa

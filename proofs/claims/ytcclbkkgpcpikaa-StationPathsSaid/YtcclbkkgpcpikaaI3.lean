import Derived.Test.YtcclbkkgpcpikaaI2
set_option linter.unusedSimpArgs false
set_option linter.unusedVariables false
namespace Go.Proofs.Ytcclbkkgpcpikaa
open Go.Am
set_option maxRecDepth 100000
/-- What the way back needs of the far ends. -/
structure FarOk (n : Nat) (l : List (Nat × Nat)) (to : Nat) (far : List Int) : Prop where
  len : far.length = n
  lo : ∀ v, v < n → -1 ≤ far.getD v 0
  hi : ∀ (v d : Nat), far[v]? = some (d : Int) → d ≤ 100
  zero : ∀ v, v < n → (far.getD v 0 = 0 ↔ v = to)
  step : ∀ (v d : Nat), v < n → far[v]? = some ((d + 1 : Nat) : Int) → ∃ k, fndK l far v l.length 0 = some k
theorem fndK_some {l : List (Nat × Nat)} {far : List Int} {at_ : Nat} : ∀ {c k j : Nat}, fndK l far at_ c k = some j → goodK l far at_ j = true
  | 0, _, _, h => by cases h
  | c + 1, k, j, h => by
    rw [fndK] at h
    split at h
    · cases h; assumption
    · exact fndK_some h
theorem goodK_some {l : List (Nat × Nat)} {far : List Int} {at_ k n : Nat} (ho : okL n l) (h : goodK l far at_ k = true) : k < l.length ∧ oth (l.getD k (0, 0)) at_ < n ∧ touch (l.getD k (0, 0)) at_ = true ∧ far.getD (oth (l.getD k (0, 0)) at_) 0 = far.getD at_ 0 - 1 := by
  unfold goodK at h
  split at h
  · rename_i x hx
    have hlt := (List.getElem?_eq_some_iff.1 hx).1
    have e : l.getD k (0, 0) = x := by rw [List.getD_eq_getElem?_getD, hx]; rfl
    simp only [Bool.and_eq_true, decide_eq_true_eq] at h
    rw [e]
    have hx2 := ho x (List.mem_of_getElem? hx)
    refine ⟨hlt, ?_, h.1, h.2⟩
    have ht := h.1
    simp only [touch, Bool.or_eq_true, decide_eq_true_eq] at ht
    simp only [oth]; omega
  · cases h
def postQ (full : List Nat) (r : Ex × St) : Prop := r.1 = .exit 4 ∧ maskK (hints.keepB 56 4) ⟨56, 0, 139⟩ r.2 = some ⟨[(19, accN 0 full)], accNH full⟩
set_option maxHeartbeats 8000000 in
theorem path_back (n : Nat) (hn : n ≤ 24) (q : PV) (l : List (Nat × Nat)) (hq : Sl q (l.map enc2N)) (hok : okL n l) (hl : l.length ≤ 64) (to : Nat) (far : List Int) (hF : FarOk n l to far) : ∀ (a : List Nat × Nat × Nat) (t : St), (a.2.1 < n ∧ far[a.2.1]? = some (a.2.2 : Int) ∧ a.1.length + a.2.2 ≤ 500) →
    maskK (hints.keep 56 (firstReg (loopOf Try.f56 21))) ⟨56, 0, 139⟩ t = some (canonQ n q (.lst ((List.range l.length).map encN)) to far a.1 a.2.1) →
    Holds (L1.ex ⟨56, 0, 139⟩ (.loop (loopOf Try.f56 21)) t) (postQ (a.1 ++ greedy l far a.2.2 a.2.1)) := by
  refine loop_rule (σ := List Nat × Nat × Nat) (c := ⟨56, 0, 139⟩) (b := loopOf Try.f56 21) (fun a => canonQ n q (.lst ((List.range l.length).map encN)) to far a.1 a.2.1) (fun a => a.2.1 < n ∧ far[a.2.1]? = some (a.2.2 : Int) ∧ a.1.length + a.2.2 ≤ 500) (fun a => a.2.2) _ ?_
  rintro ⟨acc, at_, d⟩ ⟨hat, hda, hb⟩
  simp only at hat hda hb
  obtain ⟨a1, a2, a3, a4, a5, a6, a7⟩ := hq.ids
  have f0 := flatI far 1 true
  have hz := hF.zero at_ hat
  rw [List.getD_eq_getElem?_getD, hda] at hz
  simp only [Option.getD_some] at hz
  have hlen := fun H => len_lst (P := Try.prog) (H := H) slZ24 ((List.range l.length).map encN)
  rw [List.length_map, List.length_range] at hlen
  by_cases hto : at_ = to
  · have hto' : decide ((at_ : Int) = (to : Int)) = true := decide_eq_true (by omega)
    have hd0 : d = 0 := by have := hz.2 hto; omega
    subst hd0
    rw [greedy, List.append_nil]
    cases acc with
    | nil =>
      simp (decide := true) (implicitDefEqProofs := false) only [Am.findLoop, Am.loopOf, Am.bodyOf, Am.firstReg, Nat.beq, cond_true, cond_false, Am.splice, Am.walkW, Am.stdW, id, reduceCtorEq, Nat.reduceAdd, Nat.reduceSub, Nat.reduceMul, List.forall_mem_cons, List.forall_mem_nil, false_implies, implies_true, Try.f56, factsOf56, canonQ, accN, accNH, hto', a7]
      refine ⟨rfl, ?_⟩
      simp (decide := true) (implicitDefEqProofs := false) only [Am.findLoop, Am.loopOf, Am.bodyOf, Am.firstReg, Nat.beq, cond_true, cond_false, Am.splice, Am.walkW, Am.stdW, id, reduceCtorEq, Nat.reduceAdd, Nat.reduceSub, Nat.reduceMul, List.forall_mem_cons, List.forall_mem_nil, false_implies, implies_true, Try.f56, factsOf56, accN, accNH, f0, Am.compactK, Am.idsT, Am.closeStep, Am.keepW, Am.kstdW]
    | cons z acc =>
      have f1 := flatN (z :: acc) 1 true
      simp only [List.map_cons] at f1
      simp (decide := true) (implicitDefEqProofs := false) only [Am.findLoop, Am.loopOf, Am.bodyOf, Am.firstReg, Nat.beq, cond_true, cond_false, Am.splice, Am.walkW, Am.stdW, id, reduceCtorEq, Nat.reduceAdd, Nat.reduceSub, Nat.reduceMul, List.forall_mem_cons, List.forall_mem_nil, false_implies, implies_true, Try.f56, factsOf56, canonQ, accN, accNH, hto', a7]
      refine ⟨rfl, ?_⟩
      simp (decide := true) (implicitDefEqProofs := false) only [Am.findLoop, Am.loopOf, Am.bodyOf, Am.firstReg, Nat.beq, cond_true, cond_false, Am.splice, Am.walkW, Am.stdW, id, reduceCtorEq, Nat.reduceAdd, Nat.reduceSub, Nat.reduceMul, List.forall_mem_cons, List.forall_mem_nil, false_implies, implies_true, Try.f56, factsOf56, accN, accNH, f0, f1, Am.compactK, Am.idsT, Am.closeStep, Am.keepW, Am.kstdW]
  · have hto' : decide ((at_ : Int) = (to : Int)) = false := decide_eq_false (by omega)
    obtain ⟨e, rfl⟩ : ∃ e, d = e + 1 := ⟨d - 1, by have : d ≠ 0 := fun h => hto (hz.1 (by omega)); omega⟩
    obtain ⟨k, hk⟩ := hF.step at_ e hat hda
    obtain ⟨g1, g2, g3, g4⟩ := goodK_some hok (fndK_some hk)
    rw [show far.getD at_ 0 = ((e + 1 : Nat) : Int) by rw [List.getD_eq_getElem?_getD, hda]; rfl] at g4
    have hfy : far[oth (l.getD k (0, 0)) at_]? = some (e : Int) := by
      rw [List.getD_eq_getElem?_getD, List.getElem?_eq_getElem (by rw [hF.len]; exact g2)] at g4
      rw [List.getElem?_eq_getElem (by rw [hF.len]; exact g2)]
      simp only [Option.getD_some] at g4
      rw [g4]; congr 1; omega
    have hgr : greedy l far (e + 1) at_ = k :: greedy l far e (oth (l.getD k (0, 0)) at_) := by rw [greedy, hk]
    rw [hgr]
    simp (decide := true) (implicitDefEqProofs := false) only [Am.findLoop, Am.loopOf, Am.bodyOf, Am.firstReg, Nat.beq, cond_true, cond_false, Am.splice, Am.walkW, Am.stdW, id, reduceCtorEq, Nat.reduceAdd, Nat.reduceSub, Nat.reduceMul, List.forall_mem_cons, List.forall_mem_nil, false_implies, implies_true, Try.f56, factsOf56, canonQ, hto', hlen, a7]
    simp only [holds_bind]
    refine (path_find n hn q l hq hok hl to at_ (e + 1) hat (by omega) far hF.len hF.lo hda acc (by omega) 0 _ (by omega) ?_).mono ?_
    · show maskK (hints.keep 56 23) _ _ = _
      cases acc with
      | nil =>
        simp (decide := true) (implicitDefEqProofs := false) only [Am.findLoop, Am.loopOf, Am.bodyOf, Am.firstReg, Nat.beq, cond_true, cond_false, Am.splice, Am.walkW, Am.stdW, id, reduceCtorEq, Nat.reduceAdd, Nat.reduceSub, Nat.reduceMul, List.forall_mem_cons, List.forall_mem_nil, false_implies, implies_true, Try.f56, factsOf56, keep56_23, canonQ3, accN, accNH, f0, a1, a2, a3, a4, a5, a6, a7, Am.compactK, Am.idsT, Am.closeStep, Am.keepW, Am.kstdW]
        rfl
      | cons z acc =>
        have f1 := flatN (z :: acc) 1 true
        simp only [List.map_cons] at f1
        simp (decide := true) (implicitDefEqProofs := false) only [Am.findLoop, Am.loopOf, Am.bodyOf, Am.firstReg, Nat.beq, cond_true, cond_false, Am.splice, Am.walkW, Am.stdW, id, reduceCtorEq, Nat.reduceAdd, Nat.reduceSub, Nat.reduceMul, List.forall_mem_cons, List.forall_mem_nil, false_implies, implies_true, Try.f56, factsOf56, keep56_23, canonQ3, accN, accNH, f0, f1, a1, a2, a3, a4, a5, a6, a7, Am.compactK, Am.idsT, Am.closeStep, Am.keepW, Am.kstdW]
        rfl
    · rintro ⟨e', s'⟩ hp
      unfold postQ3 at hp
      rw [Nat.sub_zero, hk] at hp
      obtain ⟨h5, h6⟩ := hp
      cases h5
      rw [keepB56_6] at h6
      obtain ⟨z, zs, hzs⟩ : ∃ z zs, acc ++ [k] = z :: zs := by cases acc with
        | nil => exact ⟨k, [], rfl⟩
        | cons z acc => exact ⟨z, acc ++ [k], rfl⟩
      have hnx : ∀ r, postQ (acc ++ [k] ++ greedy l far e (oth (l.getD k (0, 0)) at_)) r → postQ (acc ++ k :: greedy l far e (oth (l.getD k (0, 0)) at_)) r := fun r hr => by simpa using hr
      have hln : (acc ++ [k]).length + e ≤ 500 := by simp only [List.length_append, List.length_cons, List.length_nil]; omega
      rw [hzs] at h6 hnx hln
      have f1 := flatN (z :: zs) 1 true
      simp only [List.map_cons] at f1
      simp (decide := true) (implicitDefEqProofs := false) only [Am.findLoop, Am.loopOf, Am.bodyOf, Am.firstReg, Nat.beq, cond_true, cond_false, Am.splice, Am.walkW, Am.stdW, id, reduceCtorEq, Nat.reduceAdd, Nat.reduceSub, Nat.reduceMul, List.forall_mem_cons, List.forall_mem_nil, false_implies, implies_true, Try.f56, factsOf56, h6, canonQ, accN, accNH, keep56_21, f0, f1, a1, a2, a3, a4, a5, a6, a7, Am.compactK, Am.idsT, Am.closeStep, Am.keepW, Am.kstdW]
      exact ⟨(z :: zs, oth (l.getD k (0, 0)) at_, e), rfl, ⟨g2, hfy, hln⟩, by simp only; omega, hnx⟩
def farF (n : Nat) (l : List (Nat × Nat)) (to : Nat) : List Int := drainP l n ((List.replicate n (-1)).set to 0) [to]
noncomputable def wayR (n : Nat) (l : List (Nat × Nat)) (fr to : Nat) : Bool × List Nat :=
  if (farF n l to).getD fr 0 < 0 then (false, []) else (true, greedy l (farF n l to) ((farF n l to).getD fr 0).toNat fr)
theorem cnt_rep (n : Nat) : cnt (List.replicate n (-1)) = n := by
  unfold cnt
  rw [List.filter_replicate]
  simp
theorem invP_start {n to : Nat} (hto : to < n) : InvP n ((List.replicate n (-1)).set to 0) [to] := by
  have hng : negAt (List.replicate n (-1)) to = true := by
    unfold negAt
    rw [List.getD_eq_getElem?_getD, List.getElem?_replicate_of_lt hto]; rfl
  have hcs := cnt_set 0 hng
  rw [cnt_rep] at hcs
  refine ⟨by simp, ?_, ?_, ?_⟩
  · simp only [List.length_cons, List.length_nil]; simp only [Int.natCast_zero] at hcs; omega
  · intro v hv
    rw [List.mem_singleton.1 hv]
    exact ⟨hto, 0, by rw [List.getElem?_set_self (by simpa using hto)]; rfl⟩
  · intro v d hd
    simp only [Int.natCast_zero] at hcs
    by_cases e : to = v
    · subst e
      rw [List.getElem?_set_self (by simpa using hto)] at hd
      simp only [Option.some.injEq] at hd
      omega
    · rw [List.getElem?_set_ne e, List.getElem?_replicate] at hd
      split at hd
      · simp only [Option.some.injEq] at hd; omega
      · cases hd
set_option maxHeartbeats 8000000 in
theorem path_call (n : Nat) (hn : n ≤ 24) (q : PV) (l : List (Nat × Nat)) (hq : Sl q (l.map enc2N)) (hok : okL n l) (hl : l.length ≤ 64) (fr to : Nat) (hfr : fr < n) (hto : to < n) (hF : FarOk n l to (farF n l to)) :
    pureCall hints L1 56 [.int .i64 n, q, .lst ((List.range l.length).map encN), .int .i64 fr, .int .i64 to] = some (.tup [outN (wayR n l fr to).2, .bool (wayR n l fr to).1]) := by
  refine pure_of prim56 (Holds.mono (Q := fun r => r = (.tup [accN 0 (wayR n l fr to).2, .bool (wayR n l fr to).1], r.2) ∧ ((wayR n l fr to).2 = [] ∨ r.2 = accNH (wayR n l fr to).2)) ?_ ?_)
  · obtain ⟨a1, a2, a3, a4, a5, a6, a7⟩ := hq.ids
    have hri := fun b => repeat_imp hn b
    have hton : (to : Int) < (n : Int) := by omega
    have hfrn : (fr : Int) < (n : Int) := by omega
    have hg := getI (l := List.replicate n (-1)) (i := to) (by simpa using hto)
    have f2 := flatI ((List.replicate n (-1)).set to 0) 1 true
    have f3 : flatM (.row [[.int .i64 (to : Nat)]] 1 true) = true := flatN [to] 1 true
    have hst := invP_start hto
    refine rn_rule (fn := Try.f56) (code := bodyOf Try.f56) ok56 Try.func56 (by kernel_rfl) (Nat.le_of_ble_eq_true (by kernel_rfl)) ?_
    simp (decide := true) (implicitDefEqProofs := false) only [Am.findLoop, Am.loopOf, Am.bodyOf, Am.firstReg, Nat.beq, cond_true, cond_false, Am.splice, Am.walkW, Am.stdW, id, reduceCtorEq, Nat.reduceAdd, Nat.reduceSub, Nat.reduceMul, List.forall_mem_cons, List.forall_mem_nil, false_implies, implies_true, Try.f56, factsOf56, List.replicate_succ, List.replicate_zero, buildSliceM, fillRow, appendF, appendH, src_lst, src_ref, elemsO_row, headOk_one, Nat.le_refl, a7, hri, hton, hg, setI, exp40_ref, rowC_row, plainss, plain_int, exp39_int, freeze_nil]
    simp only [holds_bind]
    refine (path_while n hn q l hq hok hl fr to ((List.replicate n (-1)).set to 0, [], [to]) _ hst ?_).mono ?_
    · show maskK (hints.keep 56 4) _ _ = _
      simp (decide := true) (implicitDefEqProofs := false) only [Am.findLoop, Am.loopOf, Am.bodyOf, Am.firstReg, Nat.beq, cond_true, cond_false, Am.splice, Am.walkW, Am.stdW, id, reduceCtorEq, Nat.reduceAdd, Nat.reduceSub, Nat.reduceMul, List.forall_mem_cons, List.forall_mem_nil, false_implies, implies_true, Try.f56, factsOf56, keep56_4, canonP4, f2, f3, a1, a2, a3, a4, a5, a6, a7, Am.compactK, Am.idsT, Am.closeStep, Am.keepW, Am.kstdW]
      rfl
    · rintro ⟨e, s'⟩ ⟨h5, h6⟩
      cases h5
      have h6 := h6 n hst.sum
      rw [keepB56_0] at h6
      simp only at h6
      have hW : wayR n l fr to = if (farF n l to).getD fr 0 < 0 then (false, []) else (true, greedy l (farF n l to) ((farF n l to).getD fr 0).toNat fr) := rfl
      rw [hW]
      rw [show drainP l n ((List.replicate n (-1)).set to 0) [to] = farF n l to from rfl] at h6
      generalize farF n l to = far at h6 hF
      have hgf := getI (l := far) (i := fr) (by rw [hF.len]; exact hfr)
      have hgd : far.getD fr 0 = far[fr]'(by rw [hF.len]; exact hfr) := by rw [List.getD_eq_getElem?_getD, List.getElem?_eq_getElem (by rw [hF.len]; exact hfr)]; rfl
      rw [hgd]
      by_cases c : far[fr]'(by rw [hF.len]; exact hfr) < 0
      · rw [if_pos c]
        have c' : decide (far[fr]'(by rw [hF.len]; exact hfr) < 0) = true := decide_eq_true c
        simp (decide := true) (implicitDefEqProofs := false) only [Am.findLoop, Am.loopOf, Am.bodyOf, Am.firstReg, Nat.beq, cond_true, cond_false, Am.splice, Am.walkW, Am.stdW, id, reduceCtorEq, Nat.reduceAdd, Nat.reduceSub, Nat.reduceMul, List.forall_mem_cons, List.forall_mem_nil, false_implies, implies_true, Try.f56, factsOf56, h6, canonP0, hfrn, hgf, c', accN]
        exact .inl trivial
      · rw [if_neg c]
        have c' : decide (far[fr]'(by rw [hF.len]; exact hfr) < 0) = false := decide_eq_false c
        obtain ⟨d, hd⟩ : ∃ d : Nat, far[fr]'(by rw [hF.len]; exact hfr) = d := ⟨(far[fr]'(by rw [hF.len]; exact hfr)).toNat, by omega⟩
        have hd1 : far[fr]? = some (d : Int) := by rw [List.getElem?_eq_getElem (by rw [hF.len]; exact hfr), hd]
        have f4 := flatI far 1 true
        rw [hd] at c' hgf ⊢
        simp (decide := true) (implicitDefEqProofs := false) only [Am.findLoop, Am.loopOf, Am.bodyOf, Am.firstReg, Nat.beq, cond_true, cond_false, Am.splice, Am.walkW, Am.stdW, id, reduceCtorEq, Nat.reduceAdd, Nat.reduceSub, Nat.reduceMul, List.forall_mem_cons, List.forall_mem_nil, false_implies, implies_true, Try.f56, factsOf56, h6, canonP0, hfrn, hgf, c']
        simp only [holds_bind]
        refine (path_back n hn q l hq hok hl to far hF ([], fr, d) _ ⟨hfr, hd1, by have := hF.hi fr d hd1; simp only [List.length_nil]; omega⟩ ?_).mono ?_
        · show maskK (hints.keep 56 21) _ _ = _
          simp (decide := true) (implicitDefEqProofs := false) only [Am.findLoop, Am.loopOf, Am.bodyOf, Am.firstReg, Nat.beq, cond_true, cond_false, Am.splice, Am.walkW, Am.stdW, id, reduceCtorEq, Nat.reduceAdd, Nat.reduceSub, Nat.reduceMul, List.forall_mem_cons, List.forall_mem_nil, false_implies, implies_true, Try.f56, factsOf56, keep56_21, canonQ, accN, accNH, f4, a1, a2, a3, a4, a5, a6, a7, Am.compactK, Am.idsT, Am.closeStep, Am.keepW, Am.kstdW]
        · rintro ⟨e, s'⟩ ⟨h7, h8⟩
          cases h7
          rw [keepB56_4] at h8
          simp only [List.nil_append] at h8
          simp (decide := true) (implicitDefEqProofs := false) only [Am.findLoop, Am.loopOf, Am.bodyOf, Am.firstReg, Nat.beq, cond_true, cond_false, Am.splice, Am.walkW, Am.stdW, id, reduceCtorEq, Nat.reduceAdd, Nat.reduceSub, Nat.reduceMul, List.forall_mem_cons, List.forall_mem_nil, false_implies, implies_true, Try.f56, factsOf56, h8]
          exact .inr trivial
  · rintro ⟨v, H⟩ ⟨h1, h2⟩
    simp only [Prod.mk.injEq, and_true] at h1
    subst h1
    simp only [exp_tup, omap_cons', omap_nil', exp39_bool, Option.bind_some]
    rcases h2 with h2 | h2
    · rw [h2]; rfl
    · simp only at h2
      rw [h2, exp_accN]; rfl
/-! Path -/
def outR (n x : Int) : Bool := decide (x < 0) || decide (n ≤ x)
noncomputable def wayV (w : Bool × List Nat) : PV := if w.1 = true then .tup [outN w.2, .int .i64 0] else .tup [.nils, .int .i64 8]
theorem way_ok (q : PV) (l : List (Nat × Nat)) (hq : Sl q (l.map enc2N)) (n : Nat) (hn : n ≤ 24) (hok : okL n l) (hl : l.length ≤ 64) (hg : graphCheck n (l.map castE) = 0) (fr to : Nat) (hfr : fr < n) (hto : to < n) (hF : FarOk n l to (farF n l to)) : pureCall hints L1 19 [.int .i64 n, q, .int .i64 fr, .int .i64 to] = some (wayV (wayR n l fr to)) := by
  have hc := gcheck_call q (l.map castE) (by rw [castE_enc]; exact hq) n
  rw [hg] at hc
  have hall := all_call q l hq hl
  have hp := path_call n hn q l hq hok hl fr to hfr hto hF
  have hqe := fun H => hq.plain.exp (H := H)
  have hqr := fun H => hq.rch (H := H)
  have d1 : decide ((fr : Int) < 0) = false := decide_eq_false (by omega)
  have d2 : decide ((n : Int) ≤ (fr : Int)) = false := decide_eq_false (by omega)
  have d3 : decide ((to : Int) < 0) = false := decide_eq_false (by omega)
  have d4 : decide ((n : Int) ≤ (to : Int)) = false := decide_eq_false (by omega)
  refine pure_of prim19 (Holds.mono (Q := fun r => r.1 = wayV (wayR n l fr to)) ?_ ?_)
  · refine rn_rule (fn := Try.f19) (code := bodyOf Try.f19) ok19 Try.func19 (by kernel_rfl) (Nat.le_of_ble_eq_true (by kernel_rfl)) ?_
    generalize wayR n l fr to = w at hp
    obtain ⟨b, w⟩ := w
    cases b with
    | true => simp (decide := true) (implicitDefEqProofs := false) only [Am.findLoop, Am.loopOf, Am.bodyOf, Am.firstReg, Nat.beq, cond_true, cond_false, Am.splice, Am.walkW, Am.stdW, id, reduceCtorEq, Nat.reduceAdd, Nat.reduceSub, Nat.reduceMul, List.forall_mem_cons, List.forall_mem_nil, false_implies, implies_true, Try.f19, factsOf19, hc, hall, hp, hqe, hqr, d1, d2, d3, d4, wayV]
    | false => simp (decide := true) (implicitDefEqProofs := false) only [Am.findLoop, Am.loopOf, Am.bodyOf, Am.firstReg, Nat.beq, cond_true, cond_false, Am.splice, Am.walkW, Am.stdW, id, reduceCtorEq, Nat.reduceAdd, Nat.reduceSub, Nat.reduceMul, List.forall_mem_cons, List.forall_mem_nil, false_implies, implies_true, Try.f19, factsOf19, hc, hall, hp, hqe, hqr, d1, d2, d3, d4, wayV]
  · intro r hr
    rw [hr]
    unfold wayV
    split
    · simp only [exp_tup, omap_cons', omap_nil', exp39_int, Option.bind_some]
      cases (wayR n l fr to).2 <;> rfl
    · rfl
end Go.Proofs.Ytcclbkkgpcpikaa

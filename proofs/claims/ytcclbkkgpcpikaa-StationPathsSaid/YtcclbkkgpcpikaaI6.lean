import Derived.Test.YtcclbkkgpcpikaaI4
set_option linter.unusedSimpArgs false
set_option linter.unusedVariables false
namespace Go.Proofs.Ytcclbkkgpcpikaa
open Go.Am
set_option maxRecDepth 100000
set_option maxHeartbeats 8000000 in
theorem walk_run (n : Nat) (hn : n ≤ 24) (q : PV) (l : List (Nat × Nat)) (hq : Sl q (l.map enc2N)) (hok : okL n l) (hl : l.length ≤ 64) (f : FuncId) (caps : List PV) (used : Nat → Bool) (hf : Clo f caps used l.length) (to : Nat) :
    ∀ (L : Nat), L ≤ 1000 → ∀ (H : List Mem) (at_ : Nat) (a b c d : Nat), at_ < n → CapH H a b c d q (.func f [] caps) to 58 → Holds (L1.rn 58 [.int .i64 at_, .int .i64 L, .ptr a 0 0, .ptr b 0 0, .ptr c 0 0, .ptr d 0 0] H) (postWk H (walkF used l to L at_))
  | 0, hL, H, at_, a, b, c, d, hat, hC => by
    have ha := hC.ha
    have e : ((0 : Nat) : Int) = 0 := rfl
    refine rn_rule (fn := Try.f58) (code := bodyOf Try.f58) ok58 Try.func58 (by kernel_rfl) (Nat.le_of_ble_eq_true (by kernel_rfl)) ?_
    by_cases h : at_ = to
    · have h' : decide ((at_ : Int) = (to : Int)) = true := decide_eq_true (by omega)
      rw [e]
      simp (decide := true) (implicitDefEqProofs := false) only [Am.findLoop, Am.loopOf, Am.bodyOf, Am.firstReg, Nat.beq, cond_true, cond_false, Am.splice, Am.walkW, Am.stdW, id, reduceCtorEq, Nat.reduceAdd, Nat.reduceSub, Nat.reduceMul, List.forall_mem_cons, List.forall_mem_nil, false_implies, implies_true, Try.f58, factsOf58, ha, h']
      rw [walkF, if_pos h]
      exact ⟨[], .nils, by simp [resB], .inl ⟨rfl, rfl⟩⟩
    · have h' : decide ((at_ : Int) = (to : Int)) = false := decide_eq_false (by omega)
      rw [e]
      simp (decide := true) (implicitDefEqProofs := false) only [Am.findLoop, Am.loopOf, Am.bodyOf, Am.firstReg, Nat.beq, cond_true, cond_false, Am.splice, Am.walkW, Am.stdW, id, reduceCtorEq, Nat.reduceAdd, Nat.reduceSub, Nat.reduceMul, List.forall_mem_cons, List.forall_mem_nil, false_implies, implies_true, Try.f58, factsOf58, ha, h']
      rw [walkF, if_neg h]
      exact ⟨[], .nils, by simp [resB], .inl ⟨rfl, rfl⟩⟩
  | L + 1, hL, H, at_, a, b, c, d, hat, hC => by
    obtain ⟨mb, hb⟩ := hC.hb
    have h0 : decide (((L + 1 : Nat) : Int) = 0) = false := decide_eq_false (by omega)
    have hlen := fun H => len_sl (P := Try.prog) (H := H) hq slZ22
    rw [List.length_map] at hlen
    refine rn_rule (fn := Try.f58) (code := bodyOf Try.f58) ok58 Try.func58 (by kernel_rfl) (Nat.le_of_ble_eq_true (by kernel_rfl)) ?_
    simp (decide := true) (implicitDefEqProofs := false) only [Am.findLoop, Am.loopOf, Am.bodyOf, Am.firstReg, Nat.beq, cond_true, cond_false, Am.splice, Am.walkW, Am.stdW, id, reduceCtorEq, Nat.reduceAdd, Nat.reduceSub, Nat.reduceMul, List.forall_mem_cons, List.forall_mem_nil, false_implies, implies_true, Try.f58, factsOf58, h0, hb, hlen]
    simp only [holds_bind]
    refine (walk_loop n hn q l hq hok hl f caps used hf to L (by omega) (fun H at_ a b c d h1 h2 => walk_run n hn q l hq hok hl f caps used hf to L (by omega) H at_ a b c d h1 h2) H at_ a b c d hat (0, []) _ ⟨by omega, by rw [List.append_nil]; exact hC⟩ ?_).mono ?_
    · show maskK (hints.keep 58 4) _ _ = _
      simp (decide := true) (implicitDefEqProofs := false) only [Am.findLoop, Am.loopOf, Am.bodyOf, Am.firstReg, Nat.beq, cond_true, cond_false, Am.splice, Am.walkW, Am.stdW, id, reduceCtorEq, Nat.reduceAdd, Nat.reduceSub, Nat.reduceMul, List.forall_mem_cons, List.forall_mem_nil, false_implies, implies_true, Try.f58, factsOf58, keep58_4, canonWk, List.append_nil]
      rfl
    · rintro ⟨e, s'⟩ hp
      unfold postWl at hp
      simp only [Nat.sub_zero] at hp
      rw [walkF]
      cases ho : wTry used l (walkF used l to L) at_ l.length 0 with
      | some w =>
        rw [ho] at hp
        obtain ⟨h1, J, v, h2, h3, h4, h5⟩ := hp
        cases h1
        simp (decide := true) (implicitDefEqProofs := false) only [Am.findLoop, Am.loopOf, Am.bodyOf, Am.firstReg, Nat.beq, cond_true, cond_false, Am.splice, Am.walkW, Am.stdW, id, reduceCtorEq, Nat.reduceAdd, Nat.reduceSub, Nat.reduceMul, List.forall_mem_cons, List.forall_mem_nil, false_implies, implies_true, Try.f58, factsOf58, h3, h4, h2]
        exact ⟨J, v, rfl, h5⟩
      | none =>
        rw [ho] at hp
        obtain ⟨h1, J, h2⟩ := hp
        cases h1
        rw [keepB58_0] at h2
        simp (decide := true) (implicitDefEqProofs := false) only [Am.findLoop, Am.loopOf, Am.bodyOf, Am.firstReg, Nat.beq, cond_true, cond_false, Am.splice, Am.walkW, Am.stdW, id, reduceCtorEq, Nat.reduceAdd, Nat.reduceSub, Nat.reduceMul, List.forall_mem_cons, List.forall_mem_nil, false_implies, implies_true, Try.f58, factsOf58, h2]
        exact ⟨J, .nils, rfl, .inl ⟨rfl, rfl⟩⟩
/-! the shortest way -/
theorem row_none {es : List (List PV)} (h : ∀ c ∈ es, ∀ v ∈ c, idsOf v = [] ∧ okIds v = true) (z : Nat) (m : Bool) : idsM (.row es z m) = [] ∧ okM (.row es z m) = true ∧ ∀ l, renM l (.row es z m) = .row es z m := by
  have h1 : idsM (.row es z m) = [] := by
    cases hf : flatM (.row es z m) with
    | true => exact idsM_flat hf
    | false =>
      rw [idsM_row hf, List.flatMap_eq_nil_iff]
      intro c hc
      rw [List.flatMap_eq_nil_iff]
      exact fun v hv => (h c hc v hv).1
  refine ⟨h1, ?_, fun l => renM_same (by rw [h1]; simp)⟩
  cases hf : flatM (.row es z m) with
  | true => exact okM_flat hf
  | false =>
    rw [okM_row hf, List.all_eq_true]
    intro c hc
    rw [List.all_eq_true]
    exact fun v hv => (h c hc v hv).2
noncomputable def capM (q fv : PV) (to : Nat) : List Mem := [.row [[.func 58 [] [.ptr 1 0 0, .ptr 2 0 0, .ptr 3 0 0, .ptr 0 0 0]]] 1 true, .row [[.int .i64 to]] 1 true, .row [[q]] 1 true, .row [[fv]] 1 true]
noncomputable def canonSh (q fv : PV) (fr to n L : Nat) : St := ⟨[(2, .int .i64 fr), (12, .ptr 0 0 0), (28, .int .i64 n), (29, .int .i64 L)], capM q fv to⟩
def postSh (o : Option (List Nat)) (r : Ex × St) : Prop :=
  match o with
  | some w => r.1 = .ret ∧ ∃ v, Am.get r.2.tm 10 = some v ∧ Am.get r.2.tm 11 = some (.bool true) ∧ OwnN r.2.hp v w
  | none => r.1 = .exit 0 ∧ maskK (hints.keepB 20 0) ⟨20, 0, 42⟩ r.2 = some ⟨[], []⟩
set_option maxHeartbeats 8000000 in
theorem short_loop (n : Nat) (hn : n ≤ 24) (q : PV) (l : List (Nat × Nat)) (hq : Sl q (l.map enc2N)) (hok : okL n l) (hl : l.length ≤ 64) (f : FuncId) (caps : List PV) (used : Nat → Bool) (hf : Clo f caps used l.length) (fr to : Nat) (hfr : fr < n) : ∀ (L : Nat) (t : St), L ≤ n →
    maskK (hints.keep 20 (firstReg (loopOf Try.f20 6))) ⟨20, 0, 42⟩ t = some (canonSh q (.func f [] caps) fr to n L) →
    Holds (L1.ex ⟨20, 0, 42⟩ (.loop (loopOf Try.f20 6)) t) (postSh (longR used l to fr (n - L) L)) := by
  refine loop_rule (σ := Nat) (c := ⟨20, 0, 42⟩) (b := loopOf Try.f20 6) (fun L => canonSh q (.func f [] caps) fr to n L) (fun L => L ≤ n) (fun L => n - L) _ ?_
  intro L hL
  obtain ⟨a1, a2, a3, a4, a5, a6, a7⟩ := hq.ids
  by_cases hlt : L < n
  · have hlt' : decide ((L : Int) < (n : Int)) = true := decide_eq_true (by omega)
    have hw : IntKind.i64.wrap ((L : Int) + 1) = ((L + 1 : Nat) : Int) := wrap64 (by omega) (by omega)
    have hfn : longR used l to fr (n - L) L = (match walkF used l to L fr with | some w => some w | none => longR used l to fr (n - (L + 1)) (L + 1)) := by
      obtain ⟨c, hc⟩ : ∃ c, n - L = c + 1 := ⟨n - L - 1, by omega⟩
      rw [hc, show n - (L + 1) = c by omega, longR]; rfl
    rw [hfn]
    have hC : CapH (capM q (.func f [] caps) to) 1 2 3 0 q (.func f [] caps) to 58 := ⟨rfl, ⟨_, rfl⟩, ⟨_, rfl⟩, rfl⟩
    obtain ⟨r, hr, J, v, hr2, hO⟩ := walk_run n hn q l hq hok hl f caps used hf to L (by omega) (capM q (.func f [] caps) to) fr 1 2 3 0 hfr hC
    subst hr2
    have m0 : flatM (.row [[.func 58 [] [.ptr 1 0 0, .ptr 2 0 0, .ptr 3 0 0, .ptr 0 0 0]]] 1 true) = false := rfl
    have m1 : flatM (.row [[.int .i64 (to : Nat)]] 1 true) = true := rfl
    obtain ⟨m2a, m2b, m2c⟩ := row_none (es := [[q]]) (by simp [a1, a2]) 1 true
    obtain ⟨m3a, m3b, m3c⟩ := row_none (es := [[PV.func f [] caps]]) (by simp [idsOf, okIds, hf.ids, hf.ok]) 1 true
    cases ho : walkF used l to L fr with
    | some w =>
      rw [ho] at hr hO
      simp only [resB, resW] at hr hO
      have hcap : capM q (.func f [] caps) to = [.row [[.func 58 [] [.ptr 1 0 0, .ptr 2 0 0, .ptr 3 0 0, .ptr 0 0 0]]] 1 true, .row [[.int .i64 to]] 1 true, .row [[q]] 1 true, .row [[.func f [] caps]] 1 true] := rfl
      generalize capM q (.func f [] caps) to ++ J = G at hr hO
      rw [hcap] at hr
      simp (decide := true) (implicitDefEqProofs := false) only [Am.findLoop, Am.loopOf, Am.bodyOf, Am.firstReg, Nat.beq, cond_true, cond_false, Am.splice, Am.walkW, Am.stdW, id, reduceCtorEq, Nat.reduceAdd, Nat.reduceSub, Nat.reduceMul, List.forall_mem_cons, List.forall_mem_nil, false_implies, implies_true, Try.f20, factsOf20, canonSh, hcap, opn58, hlt', hr]
      exact ⟨rfl, v, rfl, rfl, hO⟩
    | none =>
      rw [ho] at hr
      simp only [resB] at hr
      simp only [capM, List.cons_append, List.nil_append] at hr
      simp (decide := true) (implicitDefEqProofs := false) only [Am.findLoop, Am.loopOf, Am.bodyOf, Am.firstReg, Nat.beq, cond_true, cond_false, Am.splice, Am.walkW, Am.stdW, id, reduceCtorEq, Nat.reduceAdd, Nat.reduceSub, Nat.reduceMul, List.forall_mem_cons, List.forall_mem_nil, false_implies, implies_true, Try.f20, factsOf20, canonSh, capM, opn58, hlt', hw, hr, keep20_6, m0, m1, m2a, m2b, m2c, m3a, m3b, m3c, Am.compactK, Am.idsT, Am.closeStep, Am.keepW, Am.kstdW]
      exact ⟨L + 1, rfl, hlt, by omega, fun r hr => hr⟩
  · have hlt' : decide ((L : Int) < (n : Int)) = false := decide_eq_false (by omega)
    rw [show n - L = 0 by omega]
    simp (decide := true) (implicitDefEqProofs := false) only [Am.findLoop, Am.loopOf, Am.bodyOf, Am.firstReg, Nat.beq, cond_true, cond_false, Am.splice, Am.walkW, Am.stdW, id, reduceCtorEq, Nat.reduceAdd, Nat.reduceSub, Nat.reduceMul, List.forall_mem_cons, List.forall_mem_nil, false_implies, implies_true, Try.f20, factsOf20, canonSh, hlt']
    refine ⟨rfl, ?_⟩
    simp (decide := true) (implicitDefEqProofs := false) only [Am.findLoop, Am.loopOf, Am.bodyOf, Am.firstReg, Nat.beq, cond_true, cond_false, Am.splice, Am.walkW, Am.stdW, id, reduceCtorEq, Nat.reduceAdd, Nat.reduceSub, Nat.reduceMul, List.forall_mem_cons, List.forall_mem_nil, false_implies, implies_true, Try.f20, factsOf20, Am.compactK, Am.idsT, Am.closeStep, Am.keepW, Am.kstdW]
theorem exp_own {H : List Mem} {v : PV} {w : List Nat} (h : OwnN H v w) (n : Nat) : exp (n + 2) H v = some (outN w) := by
  rcases h with ⟨rfl, rfl⟩ | ⟨i, hw, rfl, hi⟩
  · rfl
  · show exp (n + 1 + 1) _ _ = _
    rw [exp_ref, hi, rowC, List.length_map, if_pos (by omega), List.drop_zero, List.take_of_length_le (by simp), plainss (plainN _)]
    cases w with
    | nil => exact absurd rfl hw
    | cons x r => rfl
set_option maxHeartbeats 8000000 in
theorem short_call (n : Nat) (hn : n ≤ 24) (q : PV) (l : List (Nat × Nat)) (hq : Sl q (l.map enc2N)) (hok : okL n l) (hl : l.length ≤ 64) (f : FuncId) (caps : List PV) (used : Nat → Bool) (hf : Clo f caps used l.length) (fr to : Nat) (hfr : fr < n) (hto : to < n) :
    pureCall hints L1 20 [.int .i64 n, q, .int .i64 fr, .int .i64 to, .func f [] caps] = some (.tup [outN (shortR used n l fr to).2, .bool (shortR used n l fr to).1]) := by
  refine pure_of prim20 (Holds.mono (Q := fun r => ∃ v, r.1 = .tup [v, .bool (shortR used n l fr to).1] ∧ OwnN r.2 v (shortR used n l fr to).2) ?_ ?_)
  · have hj := joined_call n hn q l hq hok hl f caps used hf
    have hJ := joinedF_sq (used := used) hok
    have hqe := fun H => hq.plain.exp (H := H)
    have hqr := fun H => hq.rch (H := H)
    have hS : shortR used n l fr to = if gt (joinedF used n l) fr to = true then (match longR used l to fr n 0 with | some w => (true, w) | none => (false, [])) else (false, []) := rfl
    rw [hS]
    generalize joinedF used n l = T at hj hJ
    obtain ⟨r, e1, e2, e3⟩ := hJ.row hfr
    have hia := fun H => index_sl (P := Try.prog) (H := H) (.inr rfl : Sl (matC T) _) slZ31 (k := .i64) (j := fr) (c := [.lst (r.map encT)]) (by omega) (by rw [Int.toNat_natCast, List.getElem?_map, e1]; rfl) rfl
    have hib := fun H => index_sl (P := Try.prog) (H := H) (.inr rfl : Sl (.lst (r.map encT)) (r.map encT)) slZ30 (k := .i64) (j := to) (by omega) (by rw [Int.toNat_natCast]; exact getT (by omega)) rfl
    rw [gt_row e2 (by omega)]
    generalize r[to] = b at hib
    obtain ⟨a1, a2, a3, a4, a5, a6, a7⟩ := hq.ids
    have nt : noTup q = some q := by rcases hq with ⟨rfl, _⟩ | rfl <;> rfl
    have ce : cellsOf q = [q] := by rcases hq with ⟨rfl, _⟩ | rfl <;> rfl
    have m0 : flatM (.row [[.func 58 [] [.ptr 1 0 0, .ptr 0 0 0, .ptr 2 0 0, .ptr 3 0 0]]] 1 true) = false := rfl
    have m1 : flatM (.row [[.int .i64 (to : Nat)]] 1 true) = true := rfl
    obtain ⟨m2a, m2b, m2c⟩ := row_none (es := [[q]]) (by simp [a1, a2]) 1 true
    obtain ⟨m3a, m3b, m3c⟩ := row_none (es := [[PV.func f [] caps]]) (by simp [idsOf, okIds, hf.ids, hf.ok]) 1 true
    refine rn_rule (fn := Try.f20) (code := bodyOf Try.f20) ok20 Try.func20 (by kernel_rfl) (Nat.le_of_ble_eq_true (by kernel_rfl)) ?_
    cases b with
    | false =>
      simp (decide := true) (implicitDefEqProofs := false) only [Am.findLoop, Am.loopOf, Am.bodyOf, Am.firstReg, Nat.beq, cond_true, cond_false, Am.splice, Am.walkW, Am.stdW, id, reduceCtorEq, Nat.reduceAdd, Nat.reduceSub, Nat.reduceMul, List.forall_mem_cons, List.forall_mem_nil, false_implies, implies_true, Try.f20, factsOf20, nt, ce, hj, hia, hib, hqe, hqr, exp40_func, rch40_func, hf.exp39, hf.rch, freeze_nil]
      exact ⟨.nils, rfl, .inl ⟨rfl, rfl⟩⟩
    | true =>
      simp (decide := true) (implicitDefEqProofs := false) only [Am.findLoop, Am.loopOf, Am.bodyOf, Am.firstReg, Nat.beq, cond_true, cond_false, Am.splice, Am.walkW, Am.stdW, id, reduceCtorEq, Nat.reduceAdd, Nat.reduceSub, Nat.reduceMul, List.forall_mem_cons, List.forall_mem_nil, false_implies, implies_true, Try.f20, factsOf20, nt, ce, hj, hia, hib, hqe, hqr, exp40_func, rch40_func, hf.exp39, hf.rch, freeze_nil]
      simp only [holds_bind]
      refine (short_loop n hn q l hq hok hl f caps used hf fr to hfr 0 _ (by omega) ?_).mono ?_
      · show maskK (hints.keep 20 6) _ _ = _
        simp (decide := true) (implicitDefEqProofs := false) only [Am.findLoop, Am.loopOf, Am.bodyOf, Am.firstReg, Nat.beq, cond_true, cond_false, Am.splice, Am.walkW, Am.stdW, id, reduceCtorEq, Nat.reduceAdd, Nat.reduceSub, Nat.reduceMul, List.forall_mem_cons, List.forall_mem_nil, false_implies, implies_true, Try.f20, factsOf20, keep20_6, canonSh, capM, m0, m1, m2a, m2b, m2c, m3a, m3b, m3c, Am.compactK, Am.idsT, Am.closeStep, Am.keepW, Am.kstdW]
        rfl
      · rintro ⟨e, s'⟩ hp
        unfold postSh at hp
        simp only [Nat.sub_zero] at hp
        cases ho : longR used l to fr n 0 with
        | some w =>
          rw [ho] at hp
          obtain ⟨h1, v, h2, h3, h4⟩ := hp
          cases h1
          simp (decide := true) (implicitDefEqProofs := false) only [Am.findLoop, Am.loopOf, Am.bodyOf, Am.firstReg, Nat.beq, cond_true, cond_false, Am.splice, Am.walkW, Am.stdW, id, reduceCtorEq, Nat.reduceAdd, Nat.reduceSub, Nat.reduceMul, List.forall_mem_cons, List.forall_mem_nil, false_implies, implies_true, Try.f20, factsOf20, h2, h3]
          exact ⟨v, rfl, h4⟩
        | none =>
          rw [ho] at hp
          obtain ⟨h1, h2⟩ := hp
          cases h1
          rw [keepB20_0] at h2
          simp (decide := true) (implicitDefEqProofs := false) only [Am.findLoop, Am.loopOf, Am.bodyOf, Am.firstReg, Nat.beq, cond_true, cond_false, Am.splice, Am.walkW, Am.stdW, id, reduceCtorEq, Nat.reduceAdd, Nat.reduceSub, Nat.reduceMul, List.forall_mem_cons, List.forall_mem_nil, false_implies, implies_true, Try.f20, factsOf20, h2]
          exact ⟨.nils, rfl, .inl ⟨rfl, rfl⟩⟩
  · rintro ⟨x, H⟩ ⟨v, h1, h2⟩
    simp only at h1 h2
    subst h1
    simp only [exp_tup, omap_cons', omap_nil', exp39_bool, Option.bind_some]
    rw [exp_own h2 37]; rfl
end Go.Proofs.Ytcclbkkgpcpikaa

import Derived.Test.YtcclbkkgpcpikaaJ9
set_option linter.unusedSimpArgs false
set_option linter.unusedVariables false
namespace Go.Proofs.Ytcclbkkgpcpikaa
open Go.Am
set_option maxRecDepth 100000

/-! generators at a node -/
theorem cl_Gen_call (x : Gn) (s : ByteArray) : pureCall hints L1 34 [.agg (encGn x), .box [.str s] 0] = some (.bool (eqS x.node s)) := by
  refine pure_of prim34 (Holds.mono (Q := fun r => r.1 = .bool (eqS x.node s)) ?_ fun r hr => by rw [hr]; rfl)
  simp only [encGn]
  refine rn_rule (fn := Try.f34) (code := bodyOf Try.f34) ok34 Try.func34 (by kernel_rfl) (Nat.le_of_ble_eq_true (by kernel_rfl)) ?_
  simp (decide := true) (implicitDefEqProofs := false) only [Am.findLoop, Am.loopOf, Am.bodyOf, Am.firstReg, Nat.beq, cond_true, cond_false, Am.splice, Am.walkW, Am.stdW, id, reduceCtorEq, Nat.reduceAdd, Nat.reduceSub, Nat.reduceMul, List.forall_mem_cons, List.forall_mem_nil, false_implies, implies_true, Try.f34, factsOf34, eqS_eq]
theorem enc_Gen_exp (x : Gn) (H : List Mem) : exp expFuel H (.agg (encGn x)) = some (.agg (encGn x)) := by
  apply exp_agg
  intro c hc
  simp only [encGn, List.mem_cons, List.not_mem_nil, or_false] at hc
  rcases hc with rfl | rfl | rfl | rfl | rfl <;> first | exact plain_str _ | exact plain_int _ _
noncomputable def canonIF_Gen (q : PV) (s : ByteArray) (len i : Nat) : St := ⟨[(0, q), (1, .func 34 [] [.box [.str s] 0]), (7, .int .i64 len), (8, .int .i64 i)], []⟩
def postIF_Gen (b : Bool) (r : Ex × St) : Prop := if b = true then r.1 = .ret ∧ ∃ k : Nat, Am.get r.2.tm 4 = some (.int .i64 k) else r.1 = .exit 0 ∧ maskK (hints.keepB 80 0) ⟨80, 0, 19⟩ r.2 = some ⟨[], []⟩
set_option maxHeartbeats 4000000 in
theorem ix_Gen_loop (q : PV) (l : List Gn) (hq : Sl q (l.map encGn)) (hl : l.length ≤ 1000) (s : ByteArray) : ∀ (i : Nat) (t : St), i ≤ l.length →
    maskK (hints.keep 80 (firstReg (loopOf Try.f80 2))) ⟨80, 0, 19⟩ t = some (canonIF_Gen q s l.length i) →
    Holds (L1.ex ⟨80, 0, 19⟩ (.loop (loopOf Try.f80 2)) t) (postIF_Gen ((l.drop i).any fun x => eqS x.node s)) := by
  refine loop_rule (σ := Nat) (c := ⟨80, 0, 19⟩) (b := loopOf Try.f80 2) (canonIF_Gen q s l.length) (fun i => i ≤ l.length) (fun i => l.length - i) _ ?_
  intro i hi
  obtain ⟨a1, a2, a3, a4, a5, a6, a7⟩ := hq.ids
  by_cases hlt : i < l.length
  · have hget : (l.map encGn)[(i : Int).toNat]? = some (encGn l[i]) := by simp [hlt]
    have hix := fun H => index_sl (P := Try.prog) (H := H) hq slZ44 (k := .i64) (j := i) (by omega) hget rfl
    have hlt' : decide ((i : Int) < l.length) = true := decide_eq_true (by omega)
    have hw : IntKind.i64.wrap ((i : Int) + 1) = ((i + 1 : Nat) : Int) := wrap64 (by omega) (by omega)
    have hdr : ((l.drop i).any fun x => eqS x.node s) = (eqS l[i].node s || (l.drop (i + 1)).any fun x => eqS x.node s) := by rw [List.drop_eq_getElem_cons hlt, List.any_cons]
    rw [hdr]
    generalize l[i] = x at hix
    have hcl := cl_Gen_call x s
    have hxe := enc_Gen_exp x
    simp only [encGn] at hix hcl hxe
    cases hb : eqS x.node s with
    | true =>
      rw [hb] at hcl
      simp (decide := true) (implicitDefEqProofs := false) only [Am.findLoop, Am.loopOf, Am.bodyOf, Am.firstReg, Nat.beq, cond_true, cond_false, Am.splice, Am.walkW, Am.stdW, id, reduceCtorEq, Nat.reduceAdd, Nat.reduceSub, Nat.reduceMul, List.forall_mem_cons, List.forall_mem_nil, false_implies, implies_true, Try.f80, factsOf80, canonIF_Gen, hix, hlt', hcl, hxe, opn34, imp34, mem34]
      exact ⟨rfl, i, rfl⟩
    | false =>
      rw [hb] at hcl
      simp (decide := true) (implicitDefEqProofs := false) only [Am.findLoop, Am.loopOf, Am.bodyOf, Am.firstReg, Nat.beq, cond_true, cond_false, Am.splice, Am.walkW, Am.stdW, id, reduceCtorEq, Nat.reduceAdd, Nat.reduceSub, Nat.reduceMul, List.forall_mem_cons, List.forall_mem_nil, false_implies, implies_true, Try.f80, factsOf80, canonIF_Gen, hix, hlt', hw, hcl, hxe, opn34, imp34, mem34, keep80_2, a1, a2, a3, a4, a5, a6, a7, idsOf1, Am.compactK, Am.idsT, Am.closeStep, Am.keepW, Am.kstdW]
      exact ⟨i + 1, rfl, hlt, by omega, fun r hr => by rw [Bool.false_or]; exact hr⟩
  · have hlt' : decide ((i : Int) < l.length) = false := decide_eq_false (by omega)
    rw [List.drop_eq_nil_of_le (by omega), List.any_nil]
    simp (decide := true) (implicitDefEqProofs := false) only [Am.findLoop, Am.loopOf, Am.bodyOf, Am.firstReg, Nat.beq, cond_true, cond_false, Am.splice, Am.walkW, Am.stdW, id, reduceCtorEq, Nat.reduceAdd, Nat.reduceSub, Nat.reduceMul, List.forall_mem_cons, List.forall_mem_nil, false_implies, implies_true, Try.f80, factsOf80, canonIF_Gen, hlt', a7]
    refine ⟨rfl, ?_⟩
    simp (decide := true) (implicitDefEqProofs := false) only [Am.findLoop, Am.loopOf, Am.bodyOf, Am.firstReg, Nat.beq, cond_true, cond_false, Am.splice, Am.walkW, Am.stdW, id, reduceCtorEq, Nat.reduceAdd, Nat.reduceSub, Nat.reduceMul, List.forall_mem_cons, List.forall_mem_nil, false_implies, implies_true, Try.f80, factsOf80, Am.compactK, Am.idsT, Am.closeStep, Am.keepW, Am.kstdW]
theorem ix_Gen_call (q : PV) (l : List Gn) (hq : Sl q (l.map encGn)) (hl : l.length ≤ 1000) (s : ByteArray) : ∃ v : Int, pureCall hints L1 80 [q, .func 34 [] [.box [.str s] 0]] = some (.int .i64 v) ∧ decide (0 ≤ v) = l.any fun x => eqS x.node s := by
  have hlen := fun H => len_sl (P := Try.prog) (H := H) hq slZ44
  rw [List.length_map] at hlen
  obtain ⟨a1, a2, a3, a4, a5, a6, a7⟩ := hq.ids
  have key : Holds (L1.rn 80 [q, .func 34 [] [.box [.str s] 0]] []) (fun r => ∃ v : Int, r.1 = .int .i64 v ∧ decide (0 ≤ v) = l.any fun x => eqS x.node s) := by
    refine rn_rule (fn := Try.f80) (code := bodyOf Try.f80) ok80 Try.func80 (by kernel_rfl) (Nat.le_of_ble_eq_true (by kernel_rfl)) ?_
    simp (decide := true) (implicitDefEqProofs := false) only [Am.findLoop, Am.loopOf, Am.bodyOf, Am.firstReg, Nat.beq, cond_true, cond_false, Am.splice, Am.walkW, Am.stdW, id, reduceCtorEq, Nat.reduceAdd, Nat.reduceSub, Nat.reduceMul, List.forall_mem_cons, List.forall_mem_nil, false_implies, implies_true, Try.f80, factsOf80, hlen]
    simp only [holds_bind]
    refine (ix_Gen_loop q l hq hl s 0 _ (by omega) ?_).mono ?_
    · show maskK (hints.keep 80 2) _ _ = _
      simp (decide := true) (implicitDefEqProofs := false) only [Am.findLoop, Am.loopOf, Am.bodyOf, Am.firstReg, Nat.beq, cond_true, cond_false, Am.splice, Am.walkW, Am.stdW, id, reduceCtorEq, Nat.reduceAdd, Nat.reduceSub, Nat.reduceMul, List.forall_mem_cons, List.forall_mem_nil, false_implies, implies_true, Try.f80, factsOf80, keep80_2, canonIF_Gen, a1, a2, a3, a4, a5, a6, a7, idsOf1, Am.compactK, Am.idsT, Am.closeStep, Am.keepW, Am.kstdW]
      rfl
    · rintro ⟨e, s'⟩ hp
      unfold postIF_Gen at hp
      rw [List.drop_zero] at hp
      cases hb : l.any fun x => eqS x.node s with
      | true =>
        rw [if_pos hb] at hp
        obtain ⟨h5, k, h6⟩ := hp
        cases h5
        simp (decide := true) (implicitDefEqProofs := false) only [Am.findLoop, Am.loopOf, Am.bodyOf, Am.firstReg, Nat.beq, cond_true, cond_false, Am.splice, Am.walkW, Am.stdW, id, reduceCtorEq, Nat.reduceAdd, Nat.reduceSub, Nat.reduceMul, List.forall_mem_cons, List.forall_mem_nil, false_implies, implies_true, Try.f80, factsOf80, h6]
        exact ⟨k, rfl, by simp⟩
      | false =>
        rw [if_neg (by rw [hb]; simp)] at hp
        obtain ⟨h5, h6⟩ := hp
        cases h5
        rw [keepB80_0] at h6
        simp (decide := true) (implicitDefEqProofs := false) only [Am.findLoop, Am.loopOf, Am.bodyOf, Am.firstReg, Nat.beq, cond_true, cond_false, Am.splice, Am.walkW, Am.stdW, id, reduceCtorEq, Nat.reduceAdd, Nat.reduceSub, Nat.reduceMul, List.forall_mem_cons, List.forall_mem_nil, false_implies, implies_true, Try.f80, factsOf80, h6]
        exact ⟨-1, rfl, by decide⟩
  obtain ⟨r, h1, v, h2, h3⟩ := key
  exact ⟨v, pure_of prim80 ⟨r, h1, by show exp expFuel r.2 r.1 = _; rw [h2]; rfl⟩, h3⟩
theorem has_Gen_call (q : PV) (l : List Gn) (hq : Sl q (l.map encGn)) (hl : l.length ≤ 1000) (s : ByteArray) : pureCall hints L1 33 [q, .func 34 [] [.box [.str s] 0]] = some (.bool (l.any fun x => eqS x.node s)) := by
  refine pure_of prim33 (Holds.mono (Q := fun r => r.1 = .bool (l.any fun x => eqS x.node s)) ?_ fun r hr => by rw [hr]; rfl)
  obtain ⟨v, h1, h2⟩ := ix_Gen_call q l hq hl s
  have hqe := fun H => hq.plain.exp (H := H)
  refine rn_rule (fn := Try.f33) (code := bodyOf Try.f33) ok33 Try.func33 (by kernel_rfl) (Nat.le_of_ble_eq_true (by kernel_rfl)) ?_
  simp (decide := true) (implicitDefEqProofs := false) only [Am.findLoop, Am.loopOf, Am.bodyOf, Am.firstReg, Nat.beq, cond_true, cond_false, Am.splice, Am.walkW, Am.stdW, id, reduceCtorEq, Nat.reduceAdd, Nat.reduceSub, Nat.reduceMul, List.forall_mem_cons, List.forall_mem_nil, false_implies, implies_true, Try.f33, factsOf33, h1, hqe, exp40_func, exp39_box, h2]

/-! storages at a node -/
theorem cl_Sto_call (x : So) (s : ByteArray) : pureCall hints L1 36 [.agg (encSo x), .box [.str s] 0] = some (.bool (eqS x.node s)) := by
  refine pure_of prim36 (Holds.mono (Q := fun r => r.1 = .bool (eqS x.node s)) ?_ fun r hr => by rw [hr]; rfl)
  simp only [encSo]
  refine rn_rule (fn := Try.f36) (code := bodyOf Try.f36) ok36 Try.func36 (by kernel_rfl) (Nat.le_of_ble_eq_true (by kernel_rfl)) ?_
  simp (decide := true) (implicitDefEqProofs := false) only [Am.findLoop, Am.loopOf, Am.bodyOf, Am.firstReg, Nat.beq, cond_true, cond_false, Am.splice, Am.walkW, Am.stdW, id, reduceCtorEq, Nat.reduceAdd, Nat.reduceSub, Nat.reduceMul, List.forall_mem_cons, List.forall_mem_nil, false_implies, implies_true, Try.f36, factsOf36, eqS_eq]
theorem enc_Sto_exp (x : So) (H : List Mem) : exp expFuel H (.agg (encSo x)) = some (.agg (encSo x)) := by
  apply exp_agg
  intro c hc
  simp only [encSo, List.mem_cons, List.not_mem_nil, or_false] at hc
  rcases hc with rfl | rfl | rfl | rfl | rfl <;> first | exact plain_str _ | exact plain_int _ _
noncomputable def canonIF_Sto (q : PV) (s : ByteArray) (len i : Nat) : St := ⟨[(0, q), (1, .func 36 [] [.box [.str s] 0]), (7, .int .i64 len), (8, .int .i64 i)], []⟩
def postIF_Sto (b : Bool) (r : Ex × St) : Prop := if b = true then r.1 = .ret ∧ ∃ k : Nat, Am.get r.2.tm 4 = some (.int .i64 k) else r.1 = .exit 0 ∧ maskK (hints.keepB 81 0) ⟨81, 0, 19⟩ r.2 = some ⟨[], []⟩
set_option maxHeartbeats 4000000 in
theorem ix_Sto_loop (q : PV) (l : List So) (hq : Sl q (l.map encSo)) (hl : l.length ≤ 1000) (s : ByteArray) : ∀ (i : Nat) (t : St), i ≤ l.length →
    maskK (hints.keep 81 (firstReg (loopOf Try.f81 2))) ⟨81, 0, 19⟩ t = some (canonIF_Sto q s l.length i) →
    Holds (L1.ex ⟨81, 0, 19⟩ (.loop (loopOf Try.f81 2)) t) (postIF_Sto ((l.drop i).any fun x => eqS x.node s)) := by
  refine loop_rule (σ := Nat) (c := ⟨81, 0, 19⟩) (b := loopOf Try.f81 2) (canonIF_Sto q s l.length) (fun i => i ≤ l.length) (fun i => l.length - i) _ ?_
  intro i hi
  obtain ⟨a1, a2, a3, a4, a5, a6, a7⟩ := hq.ids
  by_cases hlt : i < l.length
  · have hget : (l.map encSo)[(i : Int).toNat]? = some (encSo l[i]) := by simp [hlt]
    have hix := fun H => index_sl (P := Try.prog) (H := H) hq slZ46 (k := .i64) (j := i) (by omega) hget rfl
    have hlt' : decide ((i : Int) < l.length) = true := decide_eq_true (by omega)
    have hw : IntKind.i64.wrap ((i : Int) + 1) = ((i + 1 : Nat) : Int) := wrap64 (by omega) (by omega)
    have hdr : ((l.drop i).any fun x => eqS x.node s) = (eqS l[i].node s || (l.drop (i + 1)).any fun x => eqS x.node s) := by rw [List.drop_eq_getElem_cons hlt, List.any_cons]
    rw [hdr]
    generalize l[i] = x at hix
    have hcl := cl_Sto_call x s
    have hxe := enc_Sto_exp x
    simp only [encSo] at hix hcl hxe
    cases hb : eqS x.node s with
    | true =>
      rw [hb] at hcl
      simp (decide := true) (implicitDefEqProofs := false) only [Am.findLoop, Am.loopOf, Am.bodyOf, Am.firstReg, Nat.beq, cond_true, cond_false, Am.splice, Am.walkW, Am.stdW, id, reduceCtorEq, Nat.reduceAdd, Nat.reduceSub, Nat.reduceMul, List.forall_mem_cons, List.forall_mem_nil, false_implies, implies_true, Try.f81, factsOf81, canonIF_Sto, hix, hlt', hcl, hxe, opn36, imp36, mem36]
      exact ⟨rfl, i, rfl⟩
    | false =>
      rw [hb] at hcl
      simp (decide := true) (implicitDefEqProofs := false) only [Am.findLoop, Am.loopOf, Am.bodyOf, Am.firstReg, Nat.beq, cond_true, cond_false, Am.splice, Am.walkW, Am.stdW, id, reduceCtorEq, Nat.reduceAdd, Nat.reduceSub, Nat.reduceMul, List.forall_mem_cons, List.forall_mem_nil, false_implies, implies_true, Try.f81, factsOf81, canonIF_Sto, hix, hlt', hw, hcl, hxe, opn36, imp36, mem36, keep81_2, a1, a2, a3, a4, a5, a6, a7, idsOf1, Am.compactK, Am.idsT, Am.closeStep, Am.keepW, Am.kstdW]
      exact ⟨i + 1, rfl, hlt, by omega, fun r hr => by rw [Bool.false_or]; exact hr⟩
  · have hlt' : decide ((i : Int) < l.length) = false := decide_eq_false (by omega)
    rw [List.drop_eq_nil_of_le (by omega), List.any_nil]
    simp (decide := true) (implicitDefEqProofs := false) only [Am.findLoop, Am.loopOf, Am.bodyOf, Am.firstReg, Nat.beq, cond_true, cond_false, Am.splice, Am.walkW, Am.stdW, id, reduceCtorEq, Nat.reduceAdd, Nat.reduceSub, Nat.reduceMul, List.forall_mem_cons, List.forall_mem_nil, false_implies, implies_true, Try.f81, factsOf81, canonIF_Sto, hlt', a7]
    refine ⟨rfl, ?_⟩
    simp (decide := true) (implicitDefEqProofs := false) only [Am.findLoop, Am.loopOf, Am.bodyOf, Am.firstReg, Nat.beq, cond_true, cond_false, Am.splice, Am.walkW, Am.stdW, id, reduceCtorEq, Nat.reduceAdd, Nat.reduceSub, Nat.reduceMul, List.forall_mem_cons, List.forall_mem_nil, false_implies, implies_true, Try.f81, factsOf81, Am.compactK, Am.idsT, Am.closeStep, Am.keepW, Am.kstdW]
theorem ix_Sto_call (q : PV) (l : List So) (hq : Sl q (l.map encSo)) (hl : l.length ≤ 1000) (s : ByteArray) : ∃ v : Int, pureCall hints L1 81 [q, .func 36 [] [.box [.str s] 0]] = some (.int .i64 v) ∧ decide (0 ≤ v) = l.any fun x => eqS x.node s := by
  have hlen := fun H => len_sl (P := Try.prog) (H := H) hq slZ46
  rw [List.length_map] at hlen
  obtain ⟨a1, a2, a3, a4, a5, a6, a7⟩ := hq.ids
  have key : Holds (L1.rn 81 [q, .func 36 [] [.box [.str s] 0]] []) (fun r => ∃ v : Int, r.1 = .int .i64 v ∧ decide (0 ≤ v) = l.any fun x => eqS x.node s) := by
    refine rn_rule (fn := Try.f81) (code := bodyOf Try.f81) ok81 Try.func81 (by kernel_rfl) (Nat.le_of_ble_eq_true (by kernel_rfl)) ?_
    simp (decide := true) (implicitDefEqProofs := false) only [Am.findLoop, Am.loopOf, Am.bodyOf, Am.firstReg, Nat.beq, cond_true, cond_false, Am.splice, Am.walkW, Am.stdW, id, reduceCtorEq, Nat.reduceAdd, Nat.reduceSub, Nat.reduceMul, List.forall_mem_cons, List.forall_mem_nil, false_implies, implies_true, Try.f81, factsOf81, hlen]
    simp only [holds_bind]
    refine (ix_Sto_loop q l hq hl s 0 _ (by omega) ?_).mono ?_
    · show maskK (hints.keep 81 2) _ _ = _
      simp (decide := true) (implicitDefEqProofs := false) only [Am.findLoop, Am.loopOf, Am.bodyOf, Am.firstReg, Nat.beq, cond_true, cond_false, Am.splice, Am.walkW, Am.stdW, id, reduceCtorEq, Nat.reduceAdd, Nat.reduceSub, Nat.reduceMul, List.forall_mem_cons, List.forall_mem_nil, false_implies, implies_true, Try.f81, factsOf81, keep81_2, canonIF_Sto, a1, a2, a3, a4, a5, a6, a7, idsOf1, Am.compactK, Am.idsT, Am.closeStep, Am.keepW, Am.kstdW]
      rfl
    · rintro ⟨e, s'⟩ hp
      unfold postIF_Sto at hp
      rw [List.drop_zero] at hp
      cases hb : l.any fun x => eqS x.node s with
      | true =>
        rw [if_pos hb] at hp
        obtain ⟨h5, k, h6⟩ := hp
        cases h5
        simp (decide := true) (implicitDefEqProofs := false) only [Am.findLoop, Am.loopOf, Am.bodyOf, Am.firstReg, Nat.beq, cond_true, cond_false, Am.splice, Am.walkW, Am.stdW, id, reduceCtorEq, Nat.reduceAdd, Nat.reduceSub, Nat.reduceMul, List.forall_mem_cons, List.forall_mem_nil, false_implies, implies_true, Try.f81, factsOf81, h6]
        exact ⟨k, rfl, by simp⟩
      | false =>
        rw [if_neg (by rw [hb]; simp)] at hp
        obtain ⟨h5, h6⟩ := hp
        cases h5
        rw [keepB81_0] at h6
        simp (decide := true) (implicitDefEqProofs := false) only [Am.findLoop, Am.loopOf, Am.bodyOf, Am.firstReg, Nat.beq, cond_true, cond_false, Am.splice, Am.walkW, Am.stdW, id, reduceCtorEq, Nat.reduceAdd, Nat.reduceSub, Nat.reduceMul, List.forall_mem_cons, List.forall_mem_nil, false_implies, implies_true, Try.f81, factsOf81, h6]
        exact ⟨-1, rfl, by decide⟩
  obtain ⟨r, h1, v, h2, h3⟩ := key
  exact ⟨v, pure_of prim81 ⟨r, h1, by show exp expFuel r.2 r.1 = _; rw [h2]; rfl⟩, h3⟩
theorem has_Sto_call (q : PV) (l : List So) (hq : Sl q (l.map encSo)) (hl : l.length ≤ 1000) (s : ByteArray) : pureCall hints L1 35 [q, .func 36 [] [.box [.str s] 0]] = some (.bool (l.any fun x => eqS x.node s)) := by
  refine pure_of prim35 (Holds.mono (Q := fun r => r.1 = .bool (l.any fun x => eqS x.node s)) ?_ fun r hr => by rw [hr]; rfl)
  obtain ⟨v, h1, h2⟩ := ix_Sto_call q l hq hl s
  have hqe := fun H => hq.plain.exp (H := H)
  refine rn_rule (fn := Try.f35) (code := bodyOf Try.f35) ok35 Try.func35 (by kernel_rfl) (Nat.le_of_ble_eq_true (by kernel_rfl)) ?_
  simp (decide := true) (implicitDefEqProofs := false) only [Am.findLoop, Am.loopOf, Am.bodyOf, Am.firstReg, Nat.beq, cond_true, cond_false, Am.splice, Am.walkW, Am.stdW, id, reduceCtorEq, Nat.reduceAdd, Nat.reduceSub, Nat.reduceMul, List.forall_mem_cons, List.forall_mem_nil, false_implies, implies_true, Try.f35, factsOf35, h1, hqe, exp40_func, exp39_box, h2]
end Go.Proofs.Ytcclbkkgpcpikaa

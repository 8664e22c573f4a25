import Derived.Test.YtcclbkkgpcpikaaGB
set_option linter.unusedSimpArgs false
set_option linter.unusedVariables false
namespace Go.Proofs.Ytcclbkkgpcpikaa
open Go.Am
set_option maxRecDepth 100000
theorem encIt_get {l : List Item} {i : Nat} (hi : i < l.length) : (l.map encIt)[(i : Int).toNat]? = some (encIt l[i]) := by simp [hi]
theorem encS_one (s : ByteArray) : encS s = [.str s] := rfl
set_option maxHeartbeats 16000000 in
theorem ne_items (n : Net) (q0 q1 q2 q3 q4 q5 : PV) (hq : NetQ n q0 q1 q2 q3 q4 q5) (hl : n.nodes.length ≤ 24) (its : List Item) (qi : PV) (hqi : Sl qi (its.map encIt)) (hil : its.length ≤ 100) (hsz : ∀ x ∈ its, x.name.size ≤ reachBytes ∧ (x.ns.length = 1 ∨ x.ns.length = 2)) : ∀ (a : Nat × List ByteArray) (t : St), (a.1 ≤ its.length ∧ a.2.length ≤ 200 + a.1) →
    maskK (hints.keep 23 (firstReg (loopOf Try.f23 13))) ⟨23, 0, 105⟩ t = some (canonNE q0 q1 q2 q3 q4 q5 63 64 65 qi its.length a.1 a.2) →
    Holds (L0.ex ⟨23, 0, 105⟩ (.loop (loopOf Try.f23 13)) t) (postIt 2 2 (fun met => ⟨(66, .bool false) :: (canonNE q0 q1 q2 q3 q4 q5 63 64 65 qi its.length its.length met).tm, (canonNE q0 q1 q2 q3 q4 q5 63 64 65 qi 0 0 met).hp⟩) (runIt n.nodes a.2 (its.drop a.1))) := by
  refine loop_rule (σ := Nat × List ByteArray) (c := ⟨23, 0, 105⟩) (b := loopOf Try.f23 13) (fun a => canonNE q0 q1 q2 q3 q4 q5 63 64 65 qi its.length a.1 a.2) (fun a => a.1 ≤ its.length ∧ a.2.length ≤ 200 + a.1) (fun a => its.length - a.1) _ ?_
  rintro ⟨i, met⟩ ⟨hi, hml⟩
  simp only at hi hml
  obtain ⟨a1, a2, a3, a4, a5, a6, a7⟩ := hq.h0.ids
  obtain ⟨b1, b2, b3, b4, b5, b6, b7⟩ := hq.h1.ids
  obtain ⟨c1, c2, c3, c4, c5, c6, c7⟩ := hq.h2.ids
  obtain ⟨d1, d2, d3, d4, d5, d6, d7⟩ := hq.h3.ids
  obtain ⟨e1, e2, e3, e4, e5, e6, e7⟩ := hq.h4.ids
  obtain ⟨f1, f2, f3, f4, f5, f6, f7⟩ := hq.h5.ids
  obtain ⟨g1, g2, g3, g4, g5, g6, g7⟩ := hqi.ids
  by_cases hlt : i < its.length
  · have hix := fun H => index_sl (P := Try.prog) (H := H) hqi slZ112 (k := .i64) (j := i) (by omega) (encIt_get hlt) rfl
    have hlt' : decide ((i : Int) < its.length) = true := decide_eq_true (by omega)
    have hw : IntKind.i64.wrap ((i : Int) + 1) = ((i + 1 : Nat) : Int) := wrap64 (by omega) (by omega)
    have hget : its[i]? = some its[i] := List.getElem?_eq_getElem hlt
    obtain ⟨hszx, hns⟩ := hsz its[i] (List.getElem_mem _)
    generalize its[i] = x at hix hget hszx hns
    obtain ⟨nm, ns, bad⟩ := x
    simp only at hszx hns
    rcases hns with h1 | h2
    · obtain ⟨u, rfl⟩ : ∃ u, ns = [u] := by
        match ns, h1 with
        | [u], _ => exact ⟨u, rfl⟩
      cases met with
      | nil =>
        obtain ⟨H', hr, hH⟩ := name0_b (.row [[q0, q1, q2, q3, q4, q5]] 6 true) (.row [encIt ⟨nm, [u], bad⟩] 4 true) nm hszx
        have hit : itE n.nodes [] ⟨nm, [u], bad⟩ = if chkE [] nm = 0 then (if [u].all (fun s => memS s n.nodes) = true then (if twoSame [u] = true then 3 else if bad = true then 4 else 0) else 6) else chkE [] nm := by
          unfold itE devE chkE
          cases nameB nm <;> cases memS nm [] <;> cases [u].all (fun s => memS s n.nodes) <;> cases twoSame [u] <;> simp
        by_cases hd : chkE [] nm = 0
        · have hH' := hH hd
          subst hH'
          rw [hd] at hr
          clear hH
          simp (decide := true) only [encIt, List.map_cons, List.map_nil, encS_one, List.length_cons, List.length_nil, Nat.zero_add, Nat.reduceAdd, decide_false, decide_true] at hr hix
          have hl41 := fun (H : List Mem) (es : List (List PV)) => len_lst (P := Try.prog) (H := H) slZ41 es
          simp (decide := true) (implicitDefEqProofs := false) only [Am.findLoop, Am.loopOf, Am.bodyOf, Am.firstReg, Nat.beq, cond_true, cond_false, Am.splice, Am.walkW, Am.stdW, id, reduceCtorEq, Nat.reduceAdd, Nat.reduceSub, Nat.reduceMul, List.forall_mem_cons, List.forall_mem_nil, false_implies, implies_true, Try.f23, factsOf23, canonNE, metV, metH, hix, hlt', hr, hl41, encIt, encS_one]
          repeat rw [holds_bind]
          refine (ne_inner n q0 q1 q2 q3 q4 q5 hq hl qi (its.map encIt) hqi its.length i ⟨nm, [u], bad⟩ (by simp) nm [] 0 _ (Nat.zero_le _) ?_).mono ?_
          · show maskK (hints.keep 23 19) _ _ = _
            simp (decide := true) (implicitDefEqProofs := false) only [Am.findLoop, Am.loopOf, Am.bodyOf, Am.firstReg, Nat.beq, cond_true, cond_false, Am.splice, Am.walkW, Am.stdW, id, reduceCtorEq, Nat.reduceAdd, Nat.reduceSub, Nat.reduceMul, List.forall_mem_cons, List.forall_mem_nil, false_implies, implies_true, Try.f23, factsOf23, canonIn, keep23_19, encIt, encS_one, List.length_append, List.map_append, g1, g2, g3, g4, g5, g6, g7, a1, a2, a3, a4, a5, a6, b1, b2, b3, b4, b5, b6, c1, c2, c3, c4, c5, c6, d1, d2, d3, d4, d5, d6, e1, e2, e3, e4, e5, e6, f1, f2, f3, f4, f5, f6, a7, b7, c7, d7, e7, f7, Am.compactK, Am.idsT, Am.closeStep, Am.keepW, Am.kstdW]
            all_goals rfl
          · rintro r hp
            unfold postIn at hp
            simp only [List.drop_zero] at hp
            by_cases hall : [u].all (fun s => memS s n.nodes) = true
            · rw [if_pos hall] at hp
              subst hp
              cases hb : bad with
              | true =>
                subst hb
                simp (decide := true) (implicitDefEqProofs := false) only [Am.findLoop, Am.loopOf, Am.bodyOf, Am.firstReg, Nat.beq, cond_true, cond_false, Am.splice, Am.walkW, Am.stdW, id, reduceCtorEq, Nat.reduceAdd, Nat.reduceSub, Nat.reduceMul, List.forall_mem_cons, List.forall_mem_nil, false_implies, implies_true, Try.f23, factsOf23, canonIn, encIt, encS_one, List.length_append, List.map_append, keepB23_3, keepB23_4, g1, g2, g3, g4, g5, g6, g7, a1, a2, a3, a4, a5, a6, b1, b2, b3, b4, b5, b6, c1, c2, c3, c4, c5, c6, d1, d2, d3, d4, d5, d6, e1, e2, e3, e4, e5, e6, f1, f2, f3, f4, f5, f6, a7, b7, c7, d7, e7, f7, Am.compactK, Am.idsT, Am.closeStep, Am.keepW, Am.kstdW]
                exact postIt_bad hget (by rw [hit]; simp [hd, hall, twoSame]) (by rw [hit]; simp [hd, hall, twoSame]; rfl)
              | false =>
                subst hb
                simp (decide := true) (implicitDefEqProofs := false) only [Am.findLoop, Am.loopOf, Am.bodyOf, Am.firstReg, Nat.beq, cond_true, cond_false, Am.splice, Am.walkW, Am.stdW, id, reduceCtorEq, Nat.reduceAdd, Nat.reduceSub, Nat.reduceMul, List.forall_mem_cons, List.forall_mem_nil, false_implies, implies_true, Try.f23, factsOf23, canonIn, canonNE, metV, metH, encIt, encS_one, List.length_append, List.map_append, hw, keep23_13, keepB23_3, keepB23_4, g1, g2, g3, g4, g5, g6, g7, a1, a2, a3, a4, a5, a6, b1, b2, b3, b4, b5, b6, c1, c2, c3, c4, c5, c6, d1, d2, d3, d4, d5, d6, e1, e2, e3, e4, e5, e6, f1, f2, f3, f4, f5, f6, a7, b7, c7, d7, e7, f7, Am.compactK, Am.idsT, Am.closeStep, Am.keepW, Am.kstdW]
                refine ⟨(i + 1, [nm]), by simp only [canonNE, metV, metH, List.cons_append, List.nil_append, List.length_append, List.length_cons, List.length_nil, List.map_cons, List.map_append, List.map_nil, encS_one], ⟨hlt, by simp at hml ⊢; omega⟩, by simp only; omega, fun r hr => postIt_next (x := ⟨nm, [u], false⟩) hget (by rw [hit]; simp [hd, hall, twoSame]) hr⟩

            · rw [if_neg hall] at hp
              obtain ⟨e, s'⟩ := r
              obtain ⟨h5, h6⟩ := hp
              cases h5
              simp (decide := true) (implicitDefEqProofs := false) only [Am.findLoop, Am.loopOf, Am.bodyOf, Am.firstReg, Nat.beq, cond_true, cond_false, Am.splice, Am.walkW, Am.stdW, id, reduceCtorEq, Nat.reduceAdd, Nat.reduceSub, Nat.reduceMul, List.forall_mem_cons, List.forall_mem_nil, false_implies, implies_true, Try.f23, factsOf23, h6]
              exact postIt_bad hget (by rw [hit, if_pos hd, if_neg hall]; decide) (by rw [hit, if_pos hd, if_neg hall]; exact h6)
        · have hd' : decide (chkE [] nm = 0) = false := decide_eq_false hd
          simp (decide := true) only [encIt, List.map_cons, List.map_nil, encS_one, List.length_cons, List.length_nil, Nat.zero_add, Nat.reduceAdd, decide_false, decide_true] at hr hix
          simp (decide := true) (implicitDefEqProofs := false) only [Am.findLoop, Am.loopOf, Am.bodyOf, Am.firstReg, Nat.beq, cond_true, cond_false, Am.splice, Am.walkW, Am.stdW, id, reduceCtorEq, Nat.reduceAdd, Nat.reduceSub, Nat.reduceMul, List.forall_mem_cons, List.forall_mem_nil, false_implies, implies_true, Try.f23, factsOf23, canonNE, metV, metH, hix, hlt', hr, hd', encIt, encS_one]
          exact postIt_bad hget (by rw [hit, if_neg hd]; exact hd) (by rw [hit, if_neg hd]; rfl)

      | cons y met =>
        have hml2 : met.length ≤ 1000 := by simp at hml; omega
        have hfl := encS_flat ((y :: met) ++ [nm]) 1 true
        simp only [List.cons_append, List.map_cons, List.map_nil, List.map_append, encS_one] at hfl
        obtain ⟨H', hr, hH⟩ := name1_b (.row [[q0, q1, q2, q3, q4, q5]] 6 true) (.row [encIt ⟨nm, [u], bad⟩] 4 true) y met hml2 nm hszx
        have hit : itE n.nodes (y :: met) ⟨nm, [u], bad⟩ = if chkE (y :: met) nm = 0 then (if [u].all (fun s => memS s n.nodes) = true then (if twoSame [u] = true then 3 else if bad = true then 4 else 0) else 6) else chkE (y :: met) nm := by
          unfold itE devE chkE
          cases nameB nm <;> cases memS nm (y :: met) <;> cases [u].all (fun s => memS s n.nodes) <;> cases twoSame [u] <;> simp
        by_cases hd : chkE (y :: met) nm = 0
        · have hH' := hH hd
          subst hH'
          rw [hd] at hr
          clear hH
          simp (decide := true) only [encIt, List.map_cons, List.map_nil, encS_one, List.length_cons, List.length_nil, Nat.zero_add, Nat.reduceAdd, decide_false, decide_true] at hr hix
          have hl41 := fun (H : List Mem) (es : List (List PV)) => len_lst (P := Try.prog) (H := H) slZ41 es
          simp (decide := true) (implicitDefEqProofs := false) only [Am.findLoop, Am.loopOf, Am.bodyOf, Am.firstReg, Nat.beq, cond_true, cond_false, Am.splice, Am.walkW, Am.stdW, id, reduceCtorEq, Nat.reduceAdd, Nat.reduceSub, Nat.reduceMul, List.forall_mem_cons, List.forall_mem_nil, false_implies, implies_true, Try.f23, factsOf23, canonNE, metV, metH, hix, hlt', hr, hl41, encIt, encS_one]
          repeat rw [holds_bind]
          refine (ne_inner n q0 q1 q2 q3 q4 q5 hq hl qi (its.map encIt) hqi its.length i ⟨nm, [u], bad⟩ (by simp) y (met ++ [nm]) 0 _ (Nat.zero_le _) ?_).mono ?_
          · show maskK (hints.keep 23 19) _ _ = _
            simp (decide := true) (implicitDefEqProofs := false) only [Am.findLoop, Am.loopOf, Am.bodyOf, Am.firstReg, Nat.beq, cond_true, cond_false, Am.splice, Am.walkW, Am.stdW, id, reduceCtorEq, Nat.reduceAdd, Nat.reduceSub, Nat.reduceMul, List.forall_mem_cons, List.forall_mem_nil, false_implies, implies_true, Try.f23, factsOf23, canonIn, keep23_19, encIt, encS_one, List.length_append, List.map_append, hfl, g1, g2, g3, g4, g5, g6, g7, a1, a2, a3, a4, a5, a6, b1, b2, b3, b4, b5, b6, c1, c2, c3, c4, c5, c6, d1, d2, d3, d4, d5, d6, e1, e2, e3, e4, e5, e6, f1, f2, f3, f4, f5, f6, a7, b7, c7, d7, e7, f7, Am.compactK, Am.idsT, Am.closeStep, Am.keepW, Am.kstdW]
            all_goals rfl
          · rintro r hp
            unfold postIn at hp
            simp only [List.drop_zero] at hp
            by_cases hall : [u].all (fun s => memS s n.nodes) = true
            · rw [if_pos hall] at hp
              subst hp
              cases hb : bad with
              | true =>
                subst hb
                simp (decide := true) (implicitDefEqProofs := false) only [Am.findLoop, Am.loopOf, Am.bodyOf, Am.firstReg, Nat.beq, cond_true, cond_false, Am.splice, Am.walkW, Am.stdW, id, reduceCtorEq, Nat.reduceAdd, Nat.reduceSub, Nat.reduceMul, List.forall_mem_cons, List.forall_mem_nil, false_implies, implies_true, Try.f23, factsOf23, canonIn, encIt, encS_one, List.length_append, List.map_append, hfl, keepB23_3, keepB23_4, g1, g2, g3, g4, g5, g6, g7, a1, a2, a3, a4, a5, a6, b1, b2, b3, b4, b5, b6, c1, c2, c3, c4, c5, c6, d1, d2, d3, d4, d5, d6, e1, e2, e3, e4, e5, e6, f1, f2, f3, f4, f5, f6, a7, b7, c7, d7, e7, f7, Am.compactK, Am.idsT, Am.closeStep, Am.keepW, Am.kstdW]
                exact postIt_bad hget (by rw [hit]; simp [hd, hall, twoSame]) (by rw [hit]; simp [hd, hall, twoSame]; rfl)
              | false =>
                subst hb
                simp (decide := true) (implicitDefEqProofs := false) only [Am.findLoop, Am.loopOf, Am.bodyOf, Am.firstReg, Nat.beq, cond_true, cond_false, Am.splice, Am.walkW, Am.stdW, id, reduceCtorEq, Nat.reduceAdd, Nat.reduceSub, Nat.reduceMul, List.forall_mem_cons, List.forall_mem_nil, false_implies, implies_true, Try.f23, factsOf23, canonIn, canonNE, metV, metH, encIt, encS_one, List.length_append, List.map_append, hfl, hw, keep23_13, keepB23_3, keepB23_4, g1, g2, g3, g4, g5, g6, g7, a1, a2, a3, a4, a5, a6, b1, b2, b3, b4, b5, b6, c1, c2, c3, c4, c5, c6, d1, d2, d3, d4, d5, d6, e1, e2, e3, e4, e5, e6, f1, f2, f3, f4, f5, f6, a7, b7, c7, d7, e7, f7, Am.compactK, Am.idsT, Am.closeStep, Am.keepW, Am.kstdW]
                refine ⟨(i + 1, ((y :: met) ++ [nm])), by simp only [canonNE, metV, metH, List.cons_append, List.nil_append, List.length_append, List.length_cons, List.length_nil, List.map_cons, List.map_append, List.map_nil, encS_one], ⟨hlt, by simp at hml ⊢; omega⟩, by simp only; omega, fun r hr => postIt_next (x := ⟨nm, [u], false⟩) hget (by rw [hit]; simp [hd, hall, twoSame]) hr⟩

            · rw [if_neg hall] at hp
              obtain ⟨e, s'⟩ := r
              obtain ⟨h5, h6⟩ := hp
              cases h5
              simp (decide := true) (implicitDefEqProofs := false) only [Am.findLoop, Am.loopOf, Am.bodyOf, Am.firstReg, Nat.beq, cond_true, cond_false, Am.splice, Am.walkW, Am.stdW, id, reduceCtorEq, Nat.reduceAdd, Nat.reduceSub, Nat.reduceMul, List.forall_mem_cons, List.forall_mem_nil, false_implies, implies_true, Try.f23, factsOf23, h6]
              exact postIt_bad hget (by rw [hit, if_pos hd, if_neg hall]; decide) (by rw [hit, if_pos hd, if_neg hall]; exact h6)
        · have hd' : decide (chkE (y :: met) nm = 0) = false := decide_eq_false hd
          simp (decide := true) only [encIt, List.map_cons, List.map_nil, encS_one, List.length_cons, List.length_nil, Nat.zero_add, Nat.reduceAdd, decide_false, decide_true] at hr hix
          simp (decide := true) (implicitDefEqProofs := false) only [Am.findLoop, Am.loopOf, Am.bodyOf, Am.firstReg, Nat.beq, cond_true, cond_false, Am.splice, Am.walkW, Am.stdW, id, reduceCtorEq, Nat.reduceAdd, Nat.reduceSub, Nat.reduceMul, List.forall_mem_cons, List.forall_mem_nil, false_implies, implies_true, Try.f23, factsOf23, canonNE, metV, metH, hix, hlt', hr, hd', encIt, encS_one]
          exact postIt_bad hget (by rw [hit, if_neg hd]; exact hd) (by rw [hit, if_neg hd]; rfl)

    · obtain ⟨u, v, rfl⟩ : ∃ u v, ns = [u, v] := by
        match ns, h2 with
        | [u, v], _ => exact ⟨u, v, rfl⟩
      cases met with
      | nil =>
        obtain ⟨H', hr, hH⟩ := name0_b (.row [[q0, q1, q2, q3, q4, q5]] 6 true) (.row [encIt ⟨nm, [u, v], bad⟩] 4 true) nm hszx
        have hit : itE n.nodes [] ⟨nm, [u, v], bad⟩ = if chkE [] nm = 0 then (if [u, v].all (fun s => memS s n.nodes) = true then (if twoSame [u, v] = true then 3 else if bad = true then 4 else 0) else 6) else chkE [] nm := by
          unfold itE devE chkE
          cases nameB nm <;> cases memS nm [] <;> cases [u, v].all (fun s => memS s n.nodes) <;> cases twoSame [u, v] <;> simp
        by_cases hd : chkE [] nm = 0
        · have hH' := hH hd
          subst hH'
          rw [hd] at hr
          clear hH
          simp (decide := true) only [encIt, List.map_cons, List.map_nil, encS_one, List.length_cons, List.length_nil, Nat.zero_add, Nat.reduceAdd, decide_false, decide_true] at hr hix
          have hl41 := fun (H : List Mem) (es : List (List PV)) => len_lst (P := Try.prog) (H := H) slZ41 es
          simp (decide := true) (implicitDefEqProofs := false) only [Am.findLoop, Am.loopOf, Am.bodyOf, Am.firstReg, Nat.beq, cond_true, cond_false, Am.splice, Am.walkW, Am.stdW, id, reduceCtorEq, Nat.reduceAdd, Nat.reduceSub, Nat.reduceMul, List.forall_mem_cons, List.forall_mem_nil, false_implies, implies_true, Try.f23, factsOf23, canonNE, metV, metH, hix, hlt', hr, hl41, encIt, encS_one]
          repeat rw [holds_bind]
          refine (ne_inner n q0 q1 q2 q3 q4 q5 hq hl qi (its.map encIt) hqi its.length i ⟨nm, [u, v], bad⟩ (by simp) nm [] 0 _ (Nat.zero_le _) ?_).mono ?_
          · show maskK (hints.keep 23 19) _ _ = _
            simp (decide := true) (implicitDefEqProofs := false) only [Am.findLoop, Am.loopOf, Am.bodyOf, Am.firstReg, Nat.beq, cond_true, cond_false, Am.splice, Am.walkW, Am.stdW, id, reduceCtorEq, Nat.reduceAdd, Nat.reduceSub, Nat.reduceMul, List.forall_mem_cons, List.forall_mem_nil, false_implies, implies_true, Try.f23, factsOf23, canonIn, keep23_19, encIt, encS_one, List.length_append, List.map_append, g1, g2, g3, g4, g5, g6, g7, a1, a2, a3, a4, a5, a6, b1, b2, b3, b4, b5, b6, c1, c2, c3, c4, c5, c6, d1, d2, d3, d4, d5, d6, e1, e2, e3, e4, e5, e6, f1, f2, f3, f4, f5, f6, a7, b7, c7, d7, e7, f7, Am.compactK, Am.idsT, Am.closeStep, Am.keepW, Am.kstdW]
            all_goals rfl
          · rintro r hp
            unfold postIn at hp
            simp only [List.drop_zero] at hp
            by_cases hall : [u, v].all (fun s => memS s n.nodes) = true
            · rw [if_pos hall] at hp
              subst hp
              cases hsame : eqS u v with
              | true =>
                have hsame2 := hsame
                simp (decide := true) (implicitDefEqProofs := false) only [Am.findLoop, Am.loopOf, Am.bodyOf, Am.firstReg, Nat.beq, cond_true, cond_false, Am.splice, Am.walkW, Am.stdW, id, reduceCtorEq, Nat.reduceAdd, Nat.reduceSub, Nat.reduceMul, List.forall_mem_cons, List.forall_mem_nil, false_implies, implies_true, Try.f23, factsOf23, canonIn, encIt, encS_one, List.length_append, List.map_append, eqS_eq, hsame, keepB23_3, keepB23_4, g1, g2, g3, g4, g5, g6, g7, a1, a2, a3, a4, a5, a6, b1, b2, b3, b4, b5, b6, c1, c2, c3, c4, c5, c6, d1, d2, d3, d4, d5, d6, e1, e2, e3, e4, e5, e6, f1, f2, f3, f4, f5, f6, a7, b7, c7, d7, e7, f7, Am.compactK, Am.idsT, Am.closeStep, Am.keepW, Am.kstdW]
                exact postIt_bad hget (by rw [hit]; simp [hd, hall, twoSame, hsame]) (by rw [hit]; simp [hd, hall, twoSame, hsame]; rfl)
              | false =>
                have hsame2 : twoSame [u, v] = false := hsame
                cases hb : bad with
                | true =>
                  subst hb
                  simp (decide := true) (implicitDefEqProofs := false) only [Am.findLoop, Am.loopOf, Am.bodyOf, Am.firstReg, Nat.beq, cond_true, cond_false, Am.splice, Am.walkW, Am.stdW, id, reduceCtorEq, Nat.reduceAdd, Nat.reduceSub, Nat.reduceMul, List.forall_mem_cons, List.forall_mem_nil, false_implies, implies_true, Try.f23, factsOf23, canonIn, encIt, encS_one, List.length_append, List.map_append, eqS_eq, hsame, keepB23_3, keepB23_4, g1, g2, g3, g4, g5, g6, g7, a1, a2, a3, a4, a5, a6, b1, b2, b3, b4, b5, b6, c1, c2, c3, c4, c5, c6, d1, d2, d3, d4, d5, d6, e1, e2, e3, e4, e5, e6, f1, f2, f3, f4, f5, f6, a7, b7, c7, d7, e7, f7, Am.compactK, Am.idsT, Am.closeStep, Am.keepW, Am.kstdW]
                  exact postIt_bad hget (by rw [hit]; simp [hd, hall, hsame2]) (by rw [hit]; simp [hd, hall, hsame2]; rfl)
                | false =>
                  subst hb
                  simp (decide := true) (implicitDefEqProofs := false) only [Am.findLoop, Am.loopOf, Am.bodyOf, Am.firstReg, Nat.beq, cond_true, cond_false, Am.splice, Am.walkW, Am.stdW, id, reduceCtorEq, Nat.reduceAdd, Nat.reduceSub, Nat.reduceMul, List.forall_mem_cons, List.forall_mem_nil, false_implies, implies_true, Try.f23, factsOf23, canonIn, canonNE, metV, metH, encIt, encS_one, List.length_append, List.map_append, eqS_eq, hsame, hw, keep23_13, keepB23_3, keepB23_4, g1, g2, g3, g4, g5, g6, g7, a1, a2, a3, a4, a5, a6, b1, b2, b3, b4, b5, b6, c1, c2, c3, c4, c5, c6, d1, d2, d3, d4, d5, d6, e1, e2, e3, e4, e5, e6, f1, f2, f3, f4, f5, f6, a7, b7, c7, d7, e7, f7, Am.compactK, Am.idsT, Am.closeStep, Am.keepW, Am.kstdW]
                  refine ⟨(i + 1, [nm]), by simp only [canonNE, metV, metH, List.cons_append, List.nil_append, List.length_append, List.length_cons, List.length_nil, List.map_cons, List.map_append, List.map_nil, encS_one], ⟨hlt, by simp at hml ⊢; omega⟩, by simp only; omega, fun r hr => postIt_next (x := ⟨nm, [u, v], false⟩) hget (by rw [hit]; simp [hd, hall, hsame2]) hr⟩

            · rw [if_neg hall] at hp
              obtain ⟨e, s'⟩ := r
              obtain ⟨h5, h6⟩ := hp
              cases h5
              simp (decide := true) (implicitDefEqProofs := false) only [Am.findLoop, Am.loopOf, Am.bodyOf, Am.firstReg, Nat.beq, cond_true, cond_false, Am.splice, Am.walkW, Am.stdW, id, reduceCtorEq, Nat.reduceAdd, Nat.reduceSub, Nat.reduceMul, List.forall_mem_cons, List.forall_mem_nil, false_implies, implies_true, Try.f23, factsOf23, h6]
              exact postIt_bad hget (by rw [hit, if_pos hd, if_neg hall]; decide) (by rw [hit, if_pos hd, if_neg hall]; exact h6)
        · have hd' : decide (chkE [] nm = 0) = false := decide_eq_false hd
          simp (decide := true) only [encIt, List.map_cons, List.map_nil, encS_one, List.length_cons, List.length_nil, Nat.zero_add, Nat.reduceAdd, decide_false, decide_true] at hr hix
          simp (decide := true) (implicitDefEqProofs := false) only [Am.findLoop, Am.loopOf, Am.bodyOf, Am.firstReg, Nat.beq, cond_true, cond_false, Am.splice, Am.walkW, Am.stdW, id, reduceCtorEq, Nat.reduceAdd, Nat.reduceSub, Nat.reduceMul, List.forall_mem_cons, List.forall_mem_nil, false_implies, implies_true, Try.f23, factsOf23, canonNE, metV, metH, hix, hlt', hr, hd', encIt, encS_one]
          exact postIt_bad hget (by rw [hit, if_neg hd]; exact hd) (by rw [hit, if_neg hd]; rfl)

      | cons y met =>
        have hml2 : met.length ≤ 1000 := by simp at hml; omega
        have hfl := encS_flat ((y :: met) ++ [nm]) 1 true
        simp only [List.cons_append, List.map_cons, List.map_nil, List.map_append, encS_one] at hfl
        obtain ⟨H', hr, hH⟩ := name1_b (.row [[q0, q1, q2, q3, q4, q5]] 6 true) (.row [encIt ⟨nm, [u, v], bad⟩] 4 true) y met hml2 nm hszx
        have hit : itE n.nodes (y :: met) ⟨nm, [u, v], bad⟩ = if chkE (y :: met) nm = 0 then (if [u, v].all (fun s => memS s n.nodes) = true then (if twoSame [u, v] = true then 3 else if bad = true then 4 else 0) else 6) else chkE (y :: met) nm := by
          unfold itE devE chkE
          cases nameB nm <;> cases memS nm (y :: met) <;> cases [u, v].all (fun s => memS s n.nodes) <;> cases twoSame [u, v] <;> simp
        by_cases hd : chkE (y :: met) nm = 0
        · have hH' := hH hd
          subst hH'
          rw [hd] at hr
          clear hH
          simp (decide := true) only [encIt, List.map_cons, List.map_nil, encS_one, List.length_cons, List.length_nil, Nat.zero_add, Nat.reduceAdd, decide_false, decide_true] at hr hix
          have hl41 := fun (H : List Mem) (es : List (List PV)) => len_lst (P := Try.prog) (H := H) slZ41 es
          simp (decide := true) (implicitDefEqProofs := false) only [Am.findLoop, Am.loopOf, Am.bodyOf, Am.firstReg, Nat.beq, cond_true, cond_false, Am.splice, Am.walkW, Am.stdW, id, reduceCtorEq, Nat.reduceAdd, Nat.reduceSub, Nat.reduceMul, List.forall_mem_cons, List.forall_mem_nil, false_implies, implies_true, Try.f23, factsOf23, canonNE, metV, metH, hix, hlt', hr, hl41, encIt, encS_one]
          repeat rw [holds_bind]
          refine (ne_inner n q0 q1 q2 q3 q4 q5 hq hl qi (its.map encIt) hqi its.length i ⟨nm, [u, v], bad⟩ (by simp) y (met ++ [nm]) 0 _ (Nat.zero_le _) ?_).mono ?_
          · show maskK (hints.keep 23 19) _ _ = _
            simp (decide := true) (implicitDefEqProofs := false) only [Am.findLoop, Am.loopOf, Am.bodyOf, Am.firstReg, Nat.beq, cond_true, cond_false, Am.splice, Am.walkW, Am.stdW, id, reduceCtorEq, Nat.reduceAdd, Nat.reduceSub, Nat.reduceMul, List.forall_mem_cons, List.forall_mem_nil, false_implies, implies_true, Try.f23, factsOf23, canonIn, keep23_19, encIt, encS_one, List.length_append, List.map_append, hfl, g1, g2, g3, g4, g5, g6, g7, a1, a2, a3, a4, a5, a6, b1, b2, b3, b4, b5, b6, c1, c2, c3, c4, c5, c6, d1, d2, d3, d4, d5, d6, e1, e2, e3, e4, e5, e6, f1, f2, f3, f4, f5, f6, a7, b7, c7, d7, e7, f7, Am.compactK, Am.idsT, Am.closeStep, Am.keepW, Am.kstdW]
            all_goals rfl
          · rintro r hp
            unfold postIn at hp
            simp only [List.drop_zero] at hp
            by_cases hall : [u, v].all (fun s => memS s n.nodes) = true
            · rw [if_pos hall] at hp
              subst hp
              cases hsame : eqS u v with
              | true =>
                have hsame2 := hsame
                simp (decide := true) (implicitDefEqProofs := false) only [Am.findLoop, Am.loopOf, Am.bodyOf, Am.firstReg, Nat.beq, cond_true, cond_false, Am.splice, Am.walkW, Am.stdW, id, reduceCtorEq, Nat.reduceAdd, Nat.reduceSub, Nat.reduceMul, List.forall_mem_cons, List.forall_mem_nil, false_implies, implies_true, Try.f23, factsOf23, canonIn, encIt, encS_one, List.length_append, List.map_append, hfl, eqS_eq, hsame, keepB23_3, keepB23_4, g1, g2, g3, g4, g5, g6, g7, a1, a2, a3, a4, a5, a6, b1, b2, b3, b4, b5, b6, c1, c2, c3, c4, c5, c6, d1, d2, d3, d4, d5, d6, e1, e2, e3, e4, e5, e6, f1, f2, f3, f4, f5, f6, a7, b7, c7, d7, e7, f7, Am.compactK, Am.idsT, Am.closeStep, Am.keepW, Am.kstdW]
                exact postIt_bad hget (by rw [hit]; simp [hd, hall, twoSame, hsame]) (by rw [hit]; simp [hd, hall, twoSame, hsame]; rfl)
              | false =>
                have hsame2 : twoSame [u, v] = false := hsame
                cases hb : bad with
                | true =>
                  subst hb
                  simp (decide := true) (implicitDefEqProofs := false) only [Am.findLoop, Am.loopOf, Am.bodyOf, Am.firstReg, Nat.beq, cond_true, cond_false, Am.splice, Am.walkW, Am.stdW, id, reduceCtorEq, Nat.reduceAdd, Nat.reduceSub, Nat.reduceMul, List.forall_mem_cons, List.forall_mem_nil, false_implies, implies_true, Try.f23, factsOf23, canonIn, encIt, encS_one, List.length_append, List.map_append, hfl, eqS_eq, hsame, keepB23_3, keepB23_4, g1, g2, g3, g4, g5, g6, g7, a1, a2, a3, a4, a5, a6, b1, b2, b3, b4, b5, b6, c1, c2, c3, c4, c5, c6, d1, d2, d3, d4, d5, d6, e1, e2, e3, e4, e5, e6, f1, f2, f3, f4, f5, f6, a7, b7, c7, d7, e7, f7, Am.compactK, Am.idsT, Am.closeStep, Am.keepW, Am.kstdW]
                  exact postIt_bad hget (by rw [hit]; simp [hd, hall, hsame2]) (by rw [hit]; simp [hd, hall, hsame2]; rfl)
                | false =>
                  subst hb
                  simp (decide := true) (implicitDefEqProofs := false) only [Am.findLoop, Am.loopOf, Am.bodyOf, Am.firstReg, Nat.beq, cond_true, cond_false, Am.splice, Am.walkW, Am.stdW, id, reduceCtorEq, Nat.reduceAdd, Nat.reduceSub, Nat.reduceMul, List.forall_mem_cons, List.forall_mem_nil, false_implies, implies_true, Try.f23, factsOf23, canonIn, canonNE, metV, metH, encIt, encS_one, List.length_append, List.map_append, hfl, eqS_eq, hsame, hw, keep23_13, keepB23_3, keepB23_4, g1, g2, g3, g4, g5, g6, g7, a1, a2, a3, a4, a5, a6, b1, b2, b3, b4, b5, b6, c1, c2, c3, c4, c5, c6, d1, d2, d3, d4, d5, d6, e1, e2, e3, e4, e5, e6, f1, f2, f3, f4, f5, f6, a7, b7, c7, d7, e7, f7, Am.compactK, Am.idsT, Am.closeStep, Am.keepW, Am.kstdW]
                  refine ⟨(i + 1, ((y :: met) ++ [nm])), by simp only [canonNE, metV, metH, List.cons_append, List.nil_append, List.length_append, List.length_cons, List.length_nil, List.map_cons, List.map_append, List.map_nil, encS_one], ⟨hlt, by simp at hml ⊢; omega⟩, by simp only; omega, fun r hr => postIt_next (x := ⟨nm, [u, v], false⟩) hget (by rw [hit]; simp [hd, hall, hsame2]) hr⟩

            · rw [if_neg hall] at hp
              obtain ⟨e, s'⟩ := r
              obtain ⟨h5, h6⟩ := hp
              cases h5
              simp (decide := true) (implicitDefEqProofs := false) only [Am.findLoop, Am.loopOf, Am.bodyOf, Am.firstReg, Nat.beq, cond_true, cond_false, Am.splice, Am.walkW, Am.stdW, id, reduceCtorEq, Nat.reduceAdd, Nat.reduceSub, Nat.reduceMul, List.forall_mem_cons, List.forall_mem_nil, false_implies, implies_true, Try.f23, factsOf23, h6]
              exact postIt_bad hget (by rw [hit, if_pos hd, if_neg hall]; decide) (by rw [hit, if_pos hd, if_neg hall]; exact h6)
        · have hd' : decide (chkE (y :: met) nm = 0) = false := decide_eq_false hd
          simp (decide := true) only [encIt, List.map_cons, List.map_nil, encS_one, List.length_cons, List.length_nil, Nat.zero_add, Nat.reduceAdd, decide_false, decide_true] at hr hix
          simp (decide := true) (implicitDefEqProofs := false) only [Am.findLoop, Am.loopOf, Am.bodyOf, Am.firstReg, Nat.beq, cond_true, cond_false, Am.splice, Am.walkW, Am.stdW, id, reduceCtorEq, Nat.reduceAdd, Nat.reduceSub, Nat.reduceMul, List.forall_mem_cons, List.forall_mem_nil, false_implies, implies_true, Try.f23, factsOf23, canonNE, metV, metH, hix, hlt', hr, hd', encIt, encS_one]
          exact postIt_bad hget (by rw [hit, if_neg hd]; exact hd) (by rw [hit, if_neg hd]; rfl)

  · have hlt' : decide ((i : Int) < its.length) = false := decide_eq_false (by omega)
    simp (decide := true) (implicitDefEqProofs := false) only [Am.findLoop, Am.loopOf, Am.bodyOf, Am.firstReg, Nat.beq, cond_true, cond_false, Am.splice, Am.walkW, Am.stdW, id, reduceCtorEq, Nat.reduceAdd, Nat.reduceSub, Nat.reduceMul, List.forall_mem_cons, List.forall_mem_nil, false_implies, implies_true, Try.f23, factsOf23, canonNE, hlt']
    refine postIt_end (by omega) ?_
    have : i = its.length := by omega
    rw [this]
end Go.Proofs.Ytcclbkkgpcpikaa

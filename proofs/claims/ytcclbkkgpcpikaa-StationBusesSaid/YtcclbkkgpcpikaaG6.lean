import Derived.Test.YtcclbkkgpcpikaaG5
set_option linter.unusedSimpArgs false
set_option linter.unusedVariables false
namespace Go.Proofs.Ytcclbkkgpcpikaa
open Go.Am
set_option maxRecDepth 100000
theorem permitted_call' (n : Int) : pureCall hints L0 105 [.int .i64 n] = some (.bool (!outB n 0 100000)) := permitted_call n
theorem devH_get {K : List Mem} {mid : Nat} {qn : PV} {s : List ByteArray} {k : Nat} (hk : k ≠ mid) (hlt : k < K.length) : (devH K mid qn s)[k]? = K[k]? := by
  unfold devH
  rw [List.getElem?_set_ne (fun e => hk e.symm), List.getElem?_append_left hlt]
theorem devH_id {K : List Mem} {mid : Nat} {qn : PV} {s : List ByteArray} (hlt : mid < K.length) : (devH K mid qn s)[mid]? = some (.map (encSeen s)) := by
  unfold devH
  rw [List.getElem?_set_self (by simp; omega)]
/-- The heap of the last checks. -/
structure EndH (G : List Mem) (mid a2 a3 : Nat) (seen : List ByteArray) (q0 q1 q2 q3 q4 q5 : PV) : Prop where
  m : G[mid]? = some (.map (encSeen seen))
  c : G[a2]? = some (.row [[.map mid, q0]] 2 true)
  n : G[a3]? = some (.row [[q0, q1, q2, q3, q4, q5]] 6 true)
theorem at_app {G : List Mem} {k : Nat} {x : Mem} (h : G[k]? = some x) (X : List Mem) : (G ++ X)[k]? = some x := by
  rw [List.getElem?_append_left (List.getElem?_eq_some_iff.1 h).1]; exact h
theorem app_0 (G X : List Mem) : (G ++ X)[G.length]? = X[0]? := by
  rw [List.getElem?_append_right (Nat.le_refl _), Nat.sub_self]
theorem app_1 (G X : List Mem) : (G ++ X)[G.length + 1]? = X[1]? := by
  rw [List.getElem?_append_right (by omega)]; congr 1; omega
theorem set_0 (G X : List Mem) (m : Mem) : (G ++ X).set G.length m = G ++ X.set 0 m := by
  rw [List.set_append_right _ _ (Nat.le_refl _), Nat.sub_self]
def postEnd (ex res : Nat) (st : List Mem → St) (P : List Mem → List ByteArray → Prop) (p : Int × List ByteArray) (r : Ex × St) : Prop :=
  if p.1 = 0 then ∃ G, r = (.exit ex, st G) ∧ P G p.2 else r.1 = .ret ∧ Am.get r.2.tm res = some (.int .i64 p.1)
theorem postEnd_bad {ex res : Nat} {st : List Mem → St} {P : List Mem → List ByteArray → Prop} {nodes seen : List ByteArray} {l : List Item} {i : Nat} {x : Item} (hi : l[i]? = some x) (hb : itE nodes seen x ≠ 0) {t : St} (hs : Am.get t.tm res = some (.int .i64 (itE nodes seen x))) : postEnd ex res st P (runIt nodes seen (l.drop i)) (.ret, t) := by
  obtain ⟨hlt, rfl⟩ := List.getElem?_eq_some_iff.1 hi
  rw [List.drop_eq_getElem_cons hlt, runIt, if_neg hb, postEnd, if_neg hb]
  exact ⟨rfl, hs⟩
theorem postEnd_next {ex res : Nat} {st : List Mem → St} {P : List Mem → List ByteArray → Prop} {nodes seen : List ByteArray} {l : List Item} {i : Nat} {x : Item} (hi : l[i]? = some x) (hb : itE nodes seen x = 0) {r : Ex × St} (h : postEnd ex res st P (runIt nodes (seen ++ [x.name]) (l.drop (i + 1))) r) : postEnd ex res st P (runIt nodes seen (l.drop i)) r := by
  obtain ⟨hlt, rfl⟩ := List.getElem?_eq_some_iff.1 hi
  rw [List.drop_eq_getElem_cons hlt, runIt, if_pos hb]
  exact h
theorem postEnd_end {ex res : Nat} {st : List Mem → St} {P : List Mem → List ByteArray → Prop} {nodes seen : List ByteArray} {l : List Item} {i : Nat} (hi : l.length ≤ i) {t : St} {G : List Mem} (hs : t = st G) (hP : P G seen) : postEnd ex res st P (runIt nodes seen (l.drop i)) (.exit ex, t) := by
  rw [List.drop_eq_nil_of_le hi, runIt, postEnd, if_pos rfl, hs]
  exact ⟨G, rfl, hP⟩
theorem gnIt_get {l : List Gn} {i : Nat} (hi : i < l.length) : (l.map gnIt)[i]? = some (gnIt l[i]) := by simp [hi]
theorem encGn_get {l : List Gn} {i : Nat} (hi : i < l.length) : (l.map encGn)[(i : Int).toNat]? = some (encGn l[i]) := by simp [hi]
set_option maxHeartbeats 4000000 in
theorem ends_gn (B : Nat) (n : Net) (q0 q1 q2 q3 q4 q5 : PV) (hq : NetQ n q0 q1 q2 q3 q4 q5) (mid a2 a3 : Nat) (hn24 : n.nodes.length ≤ 24) (hl : n.gn.length ≤ 10) : ∀ (a : Nat × List ByteArray × List Mem) (t : St), (a.1 ≤ n.gn.length ∧ EndH a.2.2 mid a2 a3 a.2.1 q0 q1 q2 q3 q4 q5) →
    maskK (hints.keep 66 (firstReg (loopOf Try.f66 2))) ⟨66, B, 105⟩ t = some ⟨[(2, .ptr a2 0 0), (3, .ptr a3 0 0), (15, q3), (16, .int .i64 n.gn.length), (17, .int .i64 a.1)], a.2.2⟩ →
    Holds (L0.ex ⟨66, B, 105⟩ (.loop (loopOf Try.f66 2)) t) (postEnd 0 4 (fun G => ⟨(18, .bool false) :: [(2, .ptr a2 0 0), (3, .ptr a3 0 0), (15, q3), (16, .int .i64 n.gn.length), (17, .int .i64 n.gn.length)], G⟩) (fun G s => EndH G mid a2 a3 s q0 q1 q2 q3 q4 q5) (runIt n.nodes a.2.1 ((n.gn.map gnIt).drop a.1))) := by
  refine loop_rule (σ := Nat × List ByteArray × List Mem) (c := ⟨66, B, 105⟩) (b := loopOf Try.f66 2) (fun a => ⟨[(2, .ptr a2 0 0), (3, .ptr a3 0 0), (15, q3), (16, .int .i64 n.gn.length), (17, .int .i64 a.1)], a.2.2⟩) (fun a => a.1 ≤ n.gn.length ∧ EndH a.2.2 mid a2 a3 a.2.1 q0 q1 q2 q3 q4 q5) (fun a => n.gn.length - a.1) _ ?_
  rintro ⟨i, seen, G⟩ ⟨hi, hG⟩
  simp only at hi hG
  by_cases hlt : i < n.gn.length
  · have hix := fun H => index_sl (P := Try.prog) (H := H) hq.h3 slZ44 (k := .i64) (j := i) (by omega) (encGn_get hlt) rfl
    have hlt' : decide ((i : Int) < n.gn.length) = true := decide_eq_true (by omega)
    have hw : IntKind.i64.wrap ((i : Int) + 1) = ((i + 1 : Nat) : Int) := wrap64 (by omega) (by omega)
    have hget := gnIt_get hlt
    generalize hsx : n.gn[i] = x at hix hget
    have hszx : x.name.size ≤ reachBytes := by rw [← hsx]; exact hq.z3 _ (List.getElem_mem _)
    have hm := at_app hG.m
    have hc := at_app hG.c
    have hmlt : mid < G.length := (List.getElem?_eq_some_iff.1 hG.m).1
    have hclt : a2 < G.length := (List.getElem?_eq_some_iff.1 hG.c).1
    have hnlt : a3 < G.length := (List.getElem?_eq_some_iff.1 hG.n).1
    have hca : a2 ≠ mid := by rintro rfl; have := hG.m.symm.trans hG.c; cases this
    have hna : a3 ≠ mid := by rintro rfl; have := hG.m.symm.trans hG.n; cases this
    have hKl : (G ++ [Mem.row [encGn x] 5 true, Mem.row [[.str x.node]] 1 true]).length = G.length + 2 := by simp
    have hx0 : (devH (G ++ [Mem.row [encGn x] 5 true, Mem.row [[.str x.node]] 1 true]) mid q0 (seen ++ [x.name]))[G.length]? = some (.row [encGn x] 5 true) := by
      rw [devH_get (by omega) (by omega), app_0]; rfl
    obtain ⟨⟨v, H'⟩, hr, hv, hH⟩ := device_run (G ++ [Mem.row [encGn x] 5 true, Mem.row [[.str x.node]] 1 true]) mid q0 (.ref (G.length + 1) 0 1 1) n.nodes seen [x.node] x.name hq.h0 (by unfold maxLen; omega) (by simp [maxLen]) hszx (hm _) (.inr ⟨G.length + 1, 1, true, rfl, by rw [devH_get (by omega) (by omega), app_1]; rfl⟩)
    simp only at hv hH
    subst hv
    by_cases hd : devE n.nodes seen x.name [x.node] = 0
    · have hH' := hH hd
      subst hH'
      rw [hd] at hr
      have hE : EndH (devH (G ++ [Mem.row [encGn x] 5 true, Mem.row [[.str x.node]] 1 true]) mid q0 (seen ++ [x.name])) mid a2 a3 (seen ++ [x.name]) q0 q1 q2 q3 q4 q5 :=
        ⟨devH_id (by omega), by rw [devH_get hca (by omega)]; exact hc _, by rw [devH_get hna (by omega)]; exact at_app hG.n _⟩
      generalize devH (G ++ [Mem.row [encGn x] 5 true, Mem.row [[.str x.node]] 1 true]) mid q0 (seen ++ [x.name]) = G' at *
      clear hH
      simp only [encGn] at hr hix hx0
      have hbad : itE n.nodes seen (gnIt x) = if (outB x.least 0 100000 || outB x.most x.least 100000 || outB x.ramp 0 100000) = true then 4 else 0 := by
        unfold itE gnIt
        simp only [hd, if_true]
      simp (decide := true) (implicitDefEqProofs := false) only [Am.findLoop, Am.loopOf, Am.bodyOf, Am.firstReg, Nat.beq, cond_true, cond_false, Am.splice, Am.walkW, Am.stdW, id, reduceCtorEq, Nat.reduceAdd, Nat.reduceSub, Nat.reduceMul, List.forall_mem_cons, List.forall_mem_nil, false_implies, implies_true, Try.f66, factsOf66, hix, hlt', hw, keep66_2, hr, hc, app_0, app_1, set_0, List.length_append, List.append_assoc, hx0, permitted_call', out_call', Bool.not_not, List.replicate_succ, List.replicate_zero, buildSliceM, fillRow]
      repeat' ((first | (simp (implicitDefEqProofs := false) only [Am.runG_not, Am.condK_not, Am.pickV_not]; split) | (simp (implicitDefEqProofs := false) only [Am.runG_bool, Am.condK_bool, Am.pickV_bool]; split) | split) <;> (try simp (implicitDefEqProofs := false) only [Am.runGT_eq, Am.runGF_eq, Am.exH_eq]) <;> try simp (decide := true) (implicitDefEqProofs := false) only [Am.findLoop, Am.loopOf, Am.bodyOf, Am.firstReg, Nat.beq, cond_true, cond_false, Am.splice, Am.walkW, Am.stdW, id, reduceCtorEq, Nat.reduceAdd, Nat.reduceSub, Nat.reduceMul, List.forall_mem_cons, List.forall_mem_nil, false_implies, implies_true, Try.f66, factsOf66, hix, hlt', hw, keep66_2, hr, hc, app_0, app_1, set_0, List.length_append, List.append_assoc, hx0, permitted_call', out_call', Bool.not_not, List.replicate_succ, List.replicate_zero, buildSliceM, fillRow, *])
      all_goals first
        | (refine postEnd_bad hget (by rw [hbad]; simp [*]) (by rw [hbad]; simp only [*, Bool.true_or, Bool.or_true, if_true]; rfl))
        | exact ⟨(i + 1, seen ++ [x.name], G'), rfl, ⟨hlt, hE⟩, by simp only; omega, fun r hr => postEnd_next hget (by rw [hbad]; simp [*]) hr⟩
    · have hd' : decide (devE n.nodes seen x.name [x.node] = 0) = false := decide_eq_false hd
      have hit : itE n.nodes seen (gnIt x) = devE n.nodes seen x.name [x.node] := by
        unfold itE gnIt
        simp only [if_neg hd]
      simp only [encGn] at hr hix
      simp (decide := true) (implicitDefEqProofs := false) only [Am.findLoop, Am.loopOf, Am.bodyOf, Am.firstReg, Nat.beq, cond_true, cond_false, Am.splice, Am.walkW, Am.stdW, id, reduceCtorEq, Nat.reduceAdd, Nat.reduceSub, Nat.reduceMul, List.forall_mem_cons, List.forall_mem_nil, false_implies, implies_true, Try.f66, factsOf66, hix, hlt', hw, keep66_2, hr, hd', hc, app_0, app_1, set_0, List.length_append, List.append_assoc, List.replicate_succ, List.replicate_zero, buildSliceM, fillRow]
      exact postEnd_bad hget (by rw [hit]; exact hd) (by rw [hit]; rfl)
  · have hlt' : decide ((i : Int) < n.gn.length) = false := decide_eq_false (by omega)
    simp (decide := true) (implicitDefEqProofs := false) only [Am.findLoop, Am.loopOf, Am.bodyOf, Am.firstReg, Nat.beq, cond_true, cond_false, Am.splice, Am.walkW, Am.stdW, id, reduceCtorEq, Nat.reduceAdd, Nat.reduceSub, Nat.reduceMul, List.forall_mem_cons, List.forall_mem_nil, false_implies, implies_true, Try.f66, factsOf66, hlt']
    refine postEnd_end (by simp; omega) ?_ hG
    have : i = n.gn.length := by omega
    rw [this]
theorem ldIt_get {l : List Ld} {i : Nat} (hi : i < l.length) : (l.map ldIt)[i]? = some (ldIt l[i]) := by simp [hi]
theorem encLd_get {l : List Ld} {i : Nat} (hi : i < l.length) : (l.map encLd)[(i : Int).toNat]? = some (encLd l[i]) := by simp [hi]
set_option maxHeartbeats 4000000 in
theorem ends_ld (B : Nat) (n : Net) (q0 q1 q2 q3 q4 q5 : PV) (hq : NetQ n q0 q1 q2 q3 q4 q5) (mid a2 a3 : Nat) (hn24 : n.nodes.length ≤ 24) (hl : n.ld.length ≤ 12) : ∀ (a : Nat × List ByteArray × List Mem) (t : St), (a.1 ≤ n.ld.length ∧ EndH a.2.2 mid a2 a3 a.2.1 q0 q1 q2 q3 q4 q5) →
    maskK (hints.keep 66 (firstReg (loopOf Try.f66 11))) ⟨66, B, 105⟩ t = some ⟨[(2, .ptr a2 0 0), (3, .ptr a3 0 0), (50, q4), (51, .int .i64 n.ld.length), (52, .int .i64 a.1)], a.2.2⟩ →
    Holds (L0.ex ⟨66, B, 105⟩ (.loop (loopOf Try.f66 11)) t) (postEnd 2 4 (fun G => ⟨(53, .bool false) :: [(2, .ptr a2 0 0), (3, .ptr a3 0 0), (50, q4), (51, .int .i64 n.ld.length), (52, .int .i64 n.ld.length)], G⟩) (fun G s => EndH G mid a2 a3 s q0 q1 q2 q3 q4 q5) (runIt n.nodes a.2.1 ((n.ld.map ldIt).drop a.1))) := by
  refine loop_rule (σ := Nat × List ByteArray × List Mem) (c := ⟨66, B, 105⟩) (b := loopOf Try.f66 11) (fun a => ⟨[(2, .ptr a2 0 0), (3, .ptr a3 0 0), (50, q4), (51, .int .i64 n.ld.length), (52, .int .i64 a.1)], a.2.2⟩) (fun a => a.1 ≤ n.ld.length ∧ EndH a.2.2 mid a2 a3 a.2.1 q0 q1 q2 q3 q4 q5) (fun a => n.ld.length - a.1) _ ?_
  rintro ⟨i, seen, G⟩ ⟨hi, hG⟩
  simp only at hi hG
  by_cases hlt : i < n.ld.length
  · have hix := fun H => index_sl (P := Try.prog) (H := H) hq.h4 slZ45 (k := .i64) (j := i) (by omega) (encLd_get hlt) rfl
    have hlt' : decide ((i : Int) < n.ld.length) = true := decide_eq_true (by omega)
    have hw : IntKind.i64.wrap ((i : Int) + 1) = ((i + 1 : Nat) : Int) := wrap64 (by omega) (by omega)
    have hget := ldIt_get hlt
    generalize hsx : n.ld[i] = x at hix hget
    have hszx : x.name.size ≤ reachBytes := by rw [← hsx]; exact hq.z4 _ (List.getElem_mem _)
    have hm := at_app hG.m
    have hc := at_app hG.c
    have hmlt : mid < G.length := (List.getElem?_eq_some_iff.1 hG.m).1
    have hclt : a2 < G.length := (List.getElem?_eq_some_iff.1 hG.c).1
    have hnlt : a3 < G.length := (List.getElem?_eq_some_iff.1 hG.n).1
    have hca : a2 ≠ mid := by rintro rfl; have := hG.m.symm.trans hG.c; cases this
    have hna : a3 ≠ mid := by rintro rfl; have := hG.m.symm.trans hG.n; cases this
    have hKl : (G ++ [Mem.row [encLd x] 3 true, Mem.row [[.str x.node]] 1 true]).length = G.length + 2 := by simp
    have hx0 : (devH (G ++ [Mem.row [encLd x] 3 true, Mem.row [[.str x.node]] 1 true]) mid q0 (seen ++ [x.name]))[G.length]? = some (.row [encLd x] 3 true) := by
      rw [devH_get (by omega) (by omega), app_0]; rfl
    obtain ⟨⟨v, H'⟩, hr, hv, hH⟩ := device_run (G ++ [Mem.row [encLd x] 3 true, Mem.row [[.str x.node]] 1 true]) mid q0 (.ref (G.length + 1) 0 1 1) n.nodes seen [x.node] x.name hq.h0 (by unfold maxLen; omega) (by simp [maxLen]) hszx (hm _) (.inr ⟨G.length + 1, 1, true, rfl, by rw [devH_get (by omega) (by omega), app_1]; rfl⟩)
    simp only at hv hH
    subst hv
    by_cases hd : devE n.nodes seen x.name [x.node] = 0
    · have hH' := hH hd
      subst hH'
      rw [hd] at hr
      have hE : EndH (devH (G ++ [Mem.row [encLd x] 3 true, Mem.row [[.str x.node]] 1 true]) mid q0 (seen ++ [x.name])) mid a2 a3 (seen ++ [x.name]) q0 q1 q2 q3 q4 q5 :=
        ⟨devH_id (by omega), by rw [devH_get hca (by omega)]; exact hc _, by rw [devH_get hna (by omega)]; exact at_app hG.n _⟩
      generalize devH (G ++ [Mem.row [encLd x] 3 true, Mem.row [[.str x.node]] 1 true]) mid q0 (seen ++ [x.name]) = G' at *
      clear hH
      simp only [encLd] at hr hix hx0
      have hbad : itE n.nodes seen (ldIt x) = if (outB x.demand 0 100000) = true then 4 else 0 := by
        unfold itE ldIt
        simp only [hd, if_true]
      simp (decide := true) (implicitDefEqProofs := false) only [Am.findLoop, Am.loopOf, Am.bodyOf, Am.firstReg, Nat.beq, cond_true, cond_false, Am.splice, Am.walkW, Am.stdW, id, reduceCtorEq, Nat.reduceAdd, Nat.reduceSub, Nat.reduceMul, List.forall_mem_cons, List.forall_mem_nil, false_implies, implies_true, Try.f66, factsOf66, hix, hlt', hw, keep66_11, hr, hc, app_0, app_1, set_0, List.length_append, List.append_assoc, hx0, permitted_call', out_call', Bool.not_not, List.replicate_succ, List.replicate_zero, buildSliceM, fillRow]
      repeat' ((first | (simp (implicitDefEqProofs := false) only [Am.runG_not, Am.condK_not, Am.pickV_not]; split) | (simp (implicitDefEqProofs := false) only [Am.runG_bool, Am.condK_bool, Am.pickV_bool]; split) | split) <;> (try simp (implicitDefEqProofs := false) only [Am.runGT_eq, Am.runGF_eq, Am.exH_eq]) <;> try simp (decide := true) (implicitDefEqProofs := false) only [Am.findLoop, Am.loopOf, Am.bodyOf, Am.firstReg, Nat.beq, cond_true, cond_false, Am.splice, Am.walkW, Am.stdW, id, reduceCtorEq, Nat.reduceAdd, Nat.reduceSub, Nat.reduceMul, List.forall_mem_cons, List.forall_mem_nil, false_implies, implies_true, Try.f66, factsOf66, hix, hlt', hw, keep66_11, hr, hc, app_0, app_1, set_0, List.length_append, List.append_assoc, hx0, permitted_call', out_call', Bool.not_not, List.replicate_succ, List.replicate_zero, buildSliceM, fillRow, *])
      all_goals first
        | (refine postEnd_bad hget (by rw [hbad]; simp [*]) (by rw [hbad]; simp only [*, Bool.true_or, Bool.or_true, if_true]; rfl))
        | exact ⟨(i + 1, seen ++ [x.name], G'), rfl, ⟨hlt, hE⟩, by simp only; omega, fun r hr => postEnd_next hget (by rw [hbad]; simp [*]) hr⟩
    · have hd' : decide (devE n.nodes seen x.name [x.node] = 0) = false := decide_eq_false hd
      have hit : itE n.nodes seen (ldIt x) = devE n.nodes seen x.name [x.node] := by
        unfold itE ldIt
        simp only [if_neg hd]
      simp only [encLd] at hr hix
      simp (decide := true) (implicitDefEqProofs := false) only [Am.findLoop, Am.loopOf, Am.bodyOf, Am.firstReg, Nat.beq, cond_true, cond_false, Am.splice, Am.walkW, Am.stdW, id, reduceCtorEq, Nat.reduceAdd, Nat.reduceSub, Nat.reduceMul, List.forall_mem_cons, List.forall_mem_nil, false_implies, implies_true, Try.f66, factsOf66, hix, hlt', hw, keep66_11, hr, hd', hc, app_0, app_1, set_0, List.length_append, List.append_assoc, List.replicate_succ, List.replicate_zero, buildSliceM, fillRow]
      exact postEnd_bad hget (by rw [hit]; exact hd) (by rw [hit]; rfl)
  · have hlt' : decide ((i : Int) < n.ld.length) = false := decide_eq_false (by omega)
    simp (decide := true) (implicitDefEqProofs := false) only [Am.findLoop, Am.loopOf, Am.bodyOf, Am.firstReg, Nat.beq, cond_true, cond_false, Am.splice, Am.walkW, Am.stdW, id, reduceCtorEq, Nat.reduceAdd, Nat.reduceSub, Nat.reduceMul, List.forall_mem_cons, List.forall_mem_nil, false_implies, implies_true, Try.f66, factsOf66, hlt']
    refine postEnd_end (by simp; omega) ?_ hG
    have : i = n.ld.length := by omega
    rw [this]
theorem soIt_get {l : List So} {i : Nat} (hi : i < l.length) : (l.map soIt)[i]? = some (soIt l[i]) := by simp [hi]
theorem encSo_get {l : List So} {i : Nat} (hi : i < l.length) : (l.map encSo)[(i : Int).toNat]? = some (encSo l[i]) := by simp [hi]
set_option maxHeartbeats 4000000 in
theorem ends_so (B : Nat) (n : Net) (q0 q1 q2 q3 q4 q5 : PV) (hq : NetQ n q0 q1 q2 q3 q4 q5) (mid a2 a3 : Nat) (hn24 : n.nodes.length ≤ 24) (hl : n.so.length ≤ 4) : ∀ (a : Nat × List ByteArray × List Mem) (t : St), (a.1 ≤ n.so.length ∧ EndH a.2.2 mid a2 a3 a.2.1 q0 q1 q2 q3 q4 q5) →
    maskK (hints.keep 66 (firstReg (loopOf Try.f66 20))) ⟨66, B, 105⟩ t = some ⟨[(2, .ptr a2 0 0), (72, q5), (73, .int .i64 n.so.length), (74, .int .i64 a.1)], a.2.2⟩ →
    Holds (L0.ex ⟨66, B, 105⟩ (.loop (loopOf Try.f66 20)) t) (postEnd 4 4 (fun G => ⟨(75, .bool false) :: [(2, .ptr a2 0 0), (72, q5), (73, .int .i64 n.so.length), (74, .int .i64 n.so.length)], G⟩) (fun G s => EndH G mid a2 a3 s q0 q1 q2 q3 q4 q5) (runIt n.nodes a.2.1 ((n.so.map soIt).drop a.1))) := by
  refine loop_rule (σ := Nat × List ByteArray × List Mem) (c := ⟨66, B, 105⟩) (b := loopOf Try.f66 20) (fun a => ⟨[(2, .ptr a2 0 0), (72, q5), (73, .int .i64 n.so.length), (74, .int .i64 a.1)], a.2.2⟩) (fun a => a.1 ≤ n.so.length ∧ EndH a.2.2 mid a2 a3 a.2.1 q0 q1 q2 q3 q4 q5) (fun a => n.so.length - a.1) _ ?_
  rintro ⟨i, seen, G⟩ ⟨hi, hG⟩
  simp only at hi hG
  by_cases hlt : i < n.so.length
  · have hix := fun H => index_sl (P := Try.prog) (H := H) hq.h5 slZ46 (k := .i64) (j := i) (by omega) (encSo_get hlt) rfl
    have hlt' : decide ((i : Int) < n.so.length) = true := decide_eq_true (by omega)
    have hw : IntKind.i64.wrap ((i : Int) + 1) = ((i + 1 : Nat) : Int) := wrap64 (by omega) (by omega)
    have hget := soIt_get hlt
    generalize hsx : n.so[i] = x at hix hget
    have hszx : x.name.size ≤ reachBytes := by rw [← hsx]; exact hq.z5 _ (List.getElem_mem _)
    have hm := at_app hG.m
    have hc := at_app hG.c
    have hmlt : mid < G.length := (List.getElem?_eq_some_iff.1 hG.m).1
    have hclt : a2 < G.length := (List.getElem?_eq_some_iff.1 hG.c).1
    have hnlt : a3 < G.length := (List.getElem?_eq_some_iff.1 hG.n).1
    have hca : a2 ≠ mid := by rintro rfl; have := hG.m.symm.trans hG.c; cases this
    have hna : a3 ≠ mid := by rintro rfl; have := hG.m.symm.trans hG.n; cases this
    have hKl : (G ++ [Mem.row [encSo x] 5 true, Mem.row [[.str x.node]] 1 true]).length = G.length + 2 := by simp
    have hx0 : (devH (G ++ [Mem.row [encSo x] 5 true, Mem.row [[.str x.node]] 1 true]) mid q0 (seen ++ [x.name]))[G.length]? = some (.row [encSo x] 5 true) := by
      rw [devH_get (by omega) (by omega), app_0]; rfl
    obtain ⟨⟨v, H'⟩, hr, hv, hH⟩ := device_run (G ++ [Mem.row [encSo x] 5 true, Mem.row [[.str x.node]] 1 true]) mid q0 (.ref (G.length + 1) 0 1 1) n.nodes seen [x.node] x.name hq.h0 (by unfold maxLen; omega) (by simp [maxLen]) hszx (hm _) (.inr ⟨G.length + 1, 1, true, rfl, by rw [devH_get (by omega) (by omega), app_1]; rfl⟩)
    simp only at hv hH
    subst hv
    by_cases hd : devE n.nodes seen x.name [x.node] = 0
    · have hH' := hH hd
      subst hH'
      rw [hd] at hr
      have hE : EndH (devH (G ++ [Mem.row [encSo x] 5 true, Mem.row [[.str x.node]] 1 true]) mid q0 (seen ++ [x.name])) mid a2 a3 (seen ++ [x.name]) q0 q1 q2 q3 q4 q5 :=
        ⟨devH_id (by omega), by rw [devH_get hca (by omega)]; exact hc _, by rw [devH_get hna (by omega)]; exact at_app hG.n _⟩
      generalize devH (G ++ [Mem.row [encSo x] 5 true, Mem.row [[.str x.node]] 1 true]) mid q0 (seen ++ [x.name]) = G' at *
      clear hH
      simp only [encSo] at hr hix hx0
      have hbad : itE n.nodes seen (soIt x) = if (outB x.charge 0 100000 || outB x.discharge 0 100000 || outB x.capacity 0 100000) = true then 4 else 0 := by
        unfold itE soIt
        simp only [hd, if_true]
      simp (decide := true) (implicitDefEqProofs := false) only [Am.findLoop, Am.loopOf, Am.bodyOf, Am.firstReg, Nat.beq, cond_true, cond_false, Am.splice, Am.walkW, Am.stdW, id, reduceCtorEq, Nat.reduceAdd, Nat.reduceSub, Nat.reduceMul, List.forall_mem_cons, List.forall_mem_nil, false_implies, implies_true, Try.f66, factsOf66, hix, hlt', hw, keep66_20, hr, hc, app_0, app_1, set_0, List.length_append, List.append_assoc, hx0, permitted_call', out_call', Bool.not_not, List.replicate_succ, List.replicate_zero, buildSliceM, fillRow]
      repeat' ((first | (simp (implicitDefEqProofs := false) only [Am.runG_not, Am.condK_not, Am.pickV_not]; split) | (simp (implicitDefEqProofs := false) only [Am.runG_bool, Am.condK_bool, Am.pickV_bool]; split) | split) <;> (try simp (implicitDefEqProofs := false) only [Am.runGT_eq, Am.runGF_eq, Am.exH_eq]) <;> try simp (decide := true) (implicitDefEqProofs := false) only [Am.findLoop, Am.loopOf, Am.bodyOf, Am.firstReg, Nat.beq, cond_true, cond_false, Am.splice, Am.walkW, Am.stdW, id, reduceCtorEq, Nat.reduceAdd, Nat.reduceSub, Nat.reduceMul, List.forall_mem_cons, List.forall_mem_nil, false_implies, implies_true, Try.f66, factsOf66, hix, hlt', hw, keep66_20, hr, hc, app_0, app_1, set_0, List.length_append, List.append_assoc, hx0, permitted_call', out_call', Bool.not_not, List.replicate_succ, List.replicate_zero, buildSliceM, fillRow, *])
      all_goals first
        | (refine postEnd_bad hget (by rw [hbad]; simp [*]) (by rw [hbad]; simp only [*, Bool.true_or, Bool.or_true, if_true]; rfl))
        | exact ⟨(i + 1, seen ++ [x.name], G'), rfl, ⟨hlt, hE⟩, by simp only; omega, fun r hr => postEnd_next hget (by rw [hbad]; simp [*]) hr⟩
    · have hd' : decide (devE n.nodes seen x.name [x.node] = 0) = false := decide_eq_false hd
      have hit : itE n.nodes seen (soIt x) = devE n.nodes seen x.name [x.node] := by
        unfold itE soIt
        simp only [if_neg hd]
      simp only [encSo] at hr hix
      simp (decide := true) (implicitDefEqProofs := false) only [Am.findLoop, Am.loopOf, Am.bodyOf, Am.firstReg, Nat.beq, cond_true, cond_false, Am.splice, Am.walkW, Am.stdW, id, reduceCtorEq, Nat.reduceAdd, Nat.reduceSub, Nat.reduceMul, List.forall_mem_cons, List.forall_mem_nil, false_implies, implies_true, Try.f66, factsOf66, hix, hlt', hw, keep66_20, hr, hd', hc, app_0, app_1, set_0, List.length_append, List.append_assoc, List.replicate_succ, List.replicate_zero, buildSliceM, fillRow]
      exact postEnd_bad hget (by rw [hit]; exact hd) (by rw [hit]; rfl)
  · have hlt' : decide ((i : Int) < n.so.length) = false := decide_eq_false (by omega)
    simp (decide := true) (implicitDefEqProofs := false) only [Am.findLoop, Am.loopOf, Am.bodyOf, Am.firstReg, Nat.beq, cond_true, cond_false, Am.splice, Am.walkW, Am.stdW, id, reduceCtorEq, Nat.reduceAdd, Nat.reduceSub, Nat.reduceMul, List.forall_mem_cons, List.forall_mem_nil, false_implies, implies_true, Try.f66, factsOf66, hlt']
    refine postEnd_end (by simp; omega) ?_ hG
    have : i = n.so.length := by omega
    rw [this]
end Go.Proofs.Ytcclbkkgpcpikaa

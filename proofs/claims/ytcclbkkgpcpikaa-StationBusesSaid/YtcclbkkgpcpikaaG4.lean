import Derived.Test.YtcclbkkgpcpikaaG3
set_option linter.unusedSimpArgs false
set_option linter.unusedVariables false
namespace Go.Proofs.Ytcclbkkgpcpikaa
open Go.Am
set_option maxRecDepth 100000
/-! the check of a device -/
def twoSame : List ByteArray → Bool
  | [a, b] => eqS a b
  | _ => false
def devE (nodes seen : List ByteArray) (name : ByteArray) (ns : List ByteArray) : Int :=
  if nameB name = true then if memS name seen = true then 7 else if ns.all (fun s => memS s nodes) = true then if twoSame ns = true then 3 else 0 else 6 else 5
noncomputable def encSeen (seen : List ByteArray) : List (PV × PV) := seen.map fun s => (.str s, .bool true)
theorem seen_find (name : ByteArray) : ∀ seen : List ByteArray, mapFind name (encSeen seen) = some (if memS name seen = true then some (.bool true) else none)
  | [] => rfl
  | x :: r => by
    show (if name.data.toList == x.data.toList then some (some (PV.bool true)) else mapFind name (encSeen r)) = _
    rw [eqS_eq, seen_find name r]
    simp only [memS, List.any_cons]
    by_cases hx : eqS name x = true
    · simp [hx]
    · simp [hx]
theorem seen_put (name : ByteArray) : ∀ seen : List ByteArray, memS name seen = false → mapPut name (.bool true) (encSeen seen) = some (encSeen (seen ++ [name]))
  | [], _ => rfl
  | x :: r, h => by
    simp only [memS, List.any_cons, Bool.or_eq_false_iff] at h
    have ih := seen_put name r h.2
    simp only [encSeen, List.map_cons, mapPut, List.cons_append] at ih ⊢
    rw [eqS_eq, h.1, ih]
    rfl
/-- The heap behind a device that was let in. -/
noncomputable def devH (H : List Mem) (mid : Nat) (qn : PV) (seen : List ByteArray) : List Mem := (H ++ [Mem.row [[.map mid, qn]] 2 true]).set mid (.map (encSeen seen))
theorem zeroPV4 : zeroPV Try.prog 4 = some (.bool false) := by kernel_rfl
/-- A slice of texts in own memory or by content. -/
def RdS (H : List Mem) (q : PV) (ns : List ByteArray) : Prop := Sl q (ns.map encS) ∨ ∃ mid m b, q = .ref mid 0 ns.length m ∧ H[mid]? = some (.row (ns.map encS) 1 b)
theorem RdS.len {H : List Mem} {q : PV} {ns : List ByteArray} (hq : RdS H q ns) : lenPV Try.prog H 41 q = some (.int .i64 ns.length) := by
  rcases hq with hq | ⟨mid, m, b, rfl, _⟩
  · have := len_sl (P := Try.prog) (H := H) hq slZ41
    rwa [List.length_map] at this
  · exact len_ref slZ41 mid 0 _ m
theorem RdS.get {H : List Mem} {q : PV} {ns : List ByteArray} (hq : RdS H q ns) {i : Nat} (hi : i < ns.length) : ∃ p, indexAddrPV Try.prog H 41 q (.int .i64 i) = some p ∧ loadPV Try.prog H 9 p = some (.str ns[i]) := by
  rcases hq with hq | ⟨mid, m, b, rfl, hH⟩
  · refine ⟨_, index_sl (P := Try.prog) (H := H) hq slZ41 (k := .i64) (j := i) (by omega) (encS_get hi) rfl, ?_⟩
    simp [load_box, part_eq, tagg9]
  · refine ⟨_, index_ref (P := Try.prog) slZ41 (k := .i64) (j := i) hH (by omega) (by omega), ?_⟩
    simp [load_p, hH, rowCell_row, hi, encS, part_eq, tagg9]
noncomputable def canonDev (H2 : List Mem) (q2 : PV) (at3 : Nat) (len i : Nat) : St := ⟨[(2, q2), (3, .ptr at3 0 0), (21, q2), (22, .int .i64 len), (23, .int .i64 i)], H2⟩
noncomputable def postDev (nodes ns : List ByteArray) (H2 : List Mem) (q2 : PV) (i : Nat) (r : Ex × St) : Prop :=
  if (ns.drop i).all (fun s => memS s nodes) = true then r.1 = .exit 1 ∧ r.2.hp = H2 ∧ Am.get r.2.tm 2 = some q2 else r.1 = .ret ∧ Am.get r.2.tm 6 = some (.int .i64 6)
set_option maxHeartbeats 2000000 in
theorem device_loop (B : Nat) (H2 : List Mem) (at3 mid : Nat) (qn q2 : PV) (nodes ns : List ByteArray) (hn : Sl qn (nodes.map encS)) (hnl : nodes.length ≤ maxLen) (hns : ns.length ≤ maxLen) (h3 : H2[at3]? = some (.row [[.map mid, qn]] 2 true)) (hq : RdS H2 q2 ns) :
    ∀ (i : Nat) (t : St), i ≤ ns.length → maskK (hints.keep 65 (firstReg (loopOf Try.f65 7))) ⟨65, B, 45⟩ t = some (canonDev H2 q2 at3 ns.length i) →
    Holds (L0.ex ⟨65, B, 45⟩ (.loop (loopOf Try.f65 7)) t) (postDev nodes ns H2 q2 i) := by
  refine loop_rule (c := ⟨65, B, 45⟩) (b := loopOf Try.f65 7) (canonDev H2 q2 at3 ns.length) (fun i => i ≤ ns.length) (fun i => ns.length - i) (postDev nodes ns H2 q2) ?_
  intro i hi
  unfold maxLen at hns
  by_cases hlt : i < ns.length
  · obtain ⟨p, hix, hld⟩ := hq.get hlt
    have hlt' : decide ((i : Int) < ns.length) = true := decide_eq_true (by omega)
    have hw : IntKind.i64.wrap ((i : Int) + 1) = ((i + 1 : Nat) : Int) := wrap64 (by omega) (by omega)
    have hc := contains_call qn nodes hn ns[i] hnl
    have hx := fun H => hn.plain.exp (H := H)
    cases hb : memS ns[i] nodes with
    | true =>
      simp (decide := true) (implicitDefEqProofs := false) only [Am.findLoop, Am.loopOf, Am.bodyOf, Am.firstReg, Nat.beq, cond_true, cond_false, Am.splice, Am.walkW, Am.stdW, id, reduceCtorEq, Nat.reduceAdd, Nat.reduceSub, Nat.reduceMul, List.forall_mem_cons, List.forall_mem_nil, false_implies, implies_true, Try.f65, factsOf65, canonDev, hix, hld, hlt', hw, keep65_7, h3, hc, hx, hb]
      refine ⟨i + 1, rfl, hlt, by omega, fun r hr => ?_⟩
      unfold postDev at hr ⊢
      rw [List.drop_eq_getElem_cons hlt, List.all_cons, hb]
      exact hr
    | false =>
      simp (decide := true) (implicitDefEqProofs := false) only [Am.findLoop, Am.loopOf, Am.bodyOf, Am.firstReg, Nat.beq, cond_true, cond_false, Am.splice, Am.walkW, Am.stdW, id, reduceCtorEq, Nat.reduceAdd, Nat.reduceSub, Nat.reduceMul, List.forall_mem_cons, List.forall_mem_nil, false_implies, implies_true, Try.f65, factsOf65, canonDev, hix, hld, hlt', hw, keep65_7, h3, hc, hx, hb]
      unfold postDev
      rw [List.drop_eq_getElem_cons hlt, List.all_cons, hb]
      exact ⟨rfl, rfl⟩
  · have hlt' : decide ((i : Int) < ns.length) = false := decide_eq_false (by omega)
    simp (decide := true) (implicitDefEqProofs := false) only [Am.findLoop, Am.loopOf, Am.bodyOf, Am.firstReg, Nat.beq, cond_true, cond_false, Am.splice, Am.walkW, Am.stdW, id, reduceCtorEq, Nat.reduceAdd, Nat.reduceSub, Nat.reduceMul, List.forall_mem_cons, List.forall_mem_nil, false_implies, implies_true, Try.f65, factsOf65, canonDev, hlt']
    unfold postDev
    rw [List.drop_eq_nil_of_le (by omega)]
    exact ⟨rfl, rfl, rfl⟩
set_option maxHeartbeats 4000000 in
theorem device_run (H : List Mem) (mid : Nat) (qn q2 : PV) (nodes seen ns : List ByteArray) (name : ByteArray) (hn : Sl qn (nodes.map encS)) (hnl : nodes.length ≤ maxLen) (hns : ns.length ≤ maxLen) (hsz : name.size ≤ reachBytes) (hid : H[mid]? = some (.map (encSeen seen)))
    (hq : RdS (devH H mid qn (seen ++ [name])) q2 ns) :
    Holds (L0.rn 65 [.agg [.map mid, qn], .str name, q2] H) (fun r => r.1 = .int .i64 (devE nodes seen name ns) ∧ (devE nodes seen name ns = 0 → r.2 = devH H mid qn (seen ++ [name]))) := by
  have hidl : mid < H.length := (List.getElem?_eq_some_iff.1 hid).1
  have h1 : (H ++ [Mem.row [[.map mid, qn]] 2 true])[H.length]? = some (.row [[.map mid, qn]] 2 true) := List.getElem?_concat_length
  have h2 : (H ++ [Mem.row [[.map mid, qn]] 2 true])[mid]? = some (.map (encSeen seen)) := by rw [List.getElem?_append_left hidl]; exact hid
  have h3 : (devH H mid qn (seen ++ [name]))[H.length]? = some (.row [[.map mid, qn]] 2 true) := by
    unfold devH
    rw [List.getElem?_set_ne (by omega)]; exact h1
  have hmo : mapOf (H ++ [Mem.row [[.map mid, qn]] 2 true]) (.map mid) = some (encSeen seen) := by simp only [mapOf, h2]
  have hnc := name_call name hsz
  refine rn_rule (fn := Try.f65) (code := bodyOf Try.f65) ok65 Try.func65 (by kernel_rfl) (Nat.le_of_ble_eq_true (by kernel_rfl)) ?_
  cases hname : nameB name with
  | false =>
    simp (decide := true) (implicitDefEqProofs := false) only [Am.findLoop, Am.loopOf, Am.bodyOf, Am.firstReg, Nat.beq, cond_true, cond_false, Am.splice, Am.walkW, Am.stdW, id, reduceCtorEq, Nat.reduceAdd, Nat.reduceSub, Nat.reduceMul, List.forall_mem_cons, List.forall_mem_nil, false_implies, implies_true, Try.f65, factsOf65, hnc, hname]
    simp [devE, hname]
  | true =>
  have hf := seen_find name seen
  cases hm : memS name seen with
  | true =>
    rw [hm, if_pos rfl] at hf
    simp (decide := true) (implicitDefEqProofs := false) only [Am.findLoop, Am.loopOf, Am.bodyOf, Am.firstReg, Nat.beq, cond_true, cond_false, Am.splice, Am.walkW, Am.stdW, id, reduceCtorEq, Nat.reduceAdd, Nat.reduceSub, Nat.reduceMul, List.forall_mem_cons, List.forall_mem_nil, false_implies, implies_true, Try.f65, factsOf65, hnc, hname, h1, lookup_map, hmo, hf, zeroPV4, Option.getD_some]
    simp [devE, hname, hm]
  | false =>
    rw [hm, if_neg (by simp)] at hf
    have hput := seen_put name seen hm
    have hdv : (H ++ [Mem.row [[.map mid, qn]] 2 true]).set mid (.map (encSeen (seen ++ [name]))) = devH H mid qn (seen ++ [name]) := rfl
    simp (decide := true) (implicitDefEqProofs := false) only [Am.findLoop, Am.loopOf, Am.bodyOf, Am.firstReg, Nat.beq, cond_true, cond_false, Am.splice, Am.walkW, Am.stdW, id, reduceCtorEq, Nat.reduceAdd, Nat.reduceSub, Nat.reduceMul, List.forall_mem_cons, List.forall_mem_nil, false_implies, implies_true, Try.f65, factsOf65, hnc, hname, h1, h2, lookup_map, hmo, hf, zeroPV4, Option.getD_none, wMap_some, hput, hdv, h3, hq.len]
    clear hdv hput h2 hmo
    generalize devH H mid qn (seen ++ [name]) = H2 at *
    rw [holds_bind, holds_bind]
    refine (device_loop H.length H2 H.length mid qn q2 nodes ns hn hnl hns h3 hq 0 _ (by omega) ?_).mono ?_
    · show maskK (hints.keep 65 7) _ _ = _
      simp (decide := true) (implicitDefEqProofs := false) only [Am.findLoop, Am.loopOf, Am.bodyOf, Am.firstReg, Nat.beq, cond_true, cond_false, Am.splice, Am.walkW, Am.stdW, id, reduceCtorEq, Nat.reduceAdd, Nat.reduceSub, Nat.reduceMul, List.forall_mem_cons, List.forall_mem_nil, false_implies, implies_true, Try.f65, factsOf65, keep65_7, canonDev]
      rfl
    · rintro ⟨e, s'⟩ hp
      unfold postDev at hp
      rw [List.drop_zero] at hp
      by_cases hall : ns.all (fun s => memS s nodes) = true
      · rw [if_pos hall] at hp
        obtain ⟨h5, h6, h7⟩ := hp
        cases h5
        obtain ⟨tm', hp'⟩ := s'
        cases h6
        have h8 : Am.get tm' 2 = some q2 := h7
        by_cases h2 : ns.length = 2
        · obtain ⟨x, y, rfl⟩ : ∃ x y, ns = [x, y] := by
            match ns, h2 with
            | [x, y], _ => exact ⟨x, y, rfl⟩
          obtain ⟨p0, g0, g1⟩ := hq.get (i := 0) (by simp)
          obtain ⟨p1, g2, g3⟩ := hq.get (i := 1) (by simp)
          have e0 : ((0 : Nat) : Int) = 0 := rfl
          have e1 : ((1 : Nat) : Int) = 1 := rfl
          rw [e0] at g0
          rw [e1] at g2
          simp only [List.getElem_cons_zero] at g1
          simp only [List.getElem_cons_succ, List.getElem_cons_zero] at g3
          have hl2 := hq.len
          simp only [List.length_cons, List.length_nil] at hl2
          cases hs : eqS x y with
          | true =>
            simp (decide := true) (implicitDefEqProofs := false) only [Am.findLoop, Am.loopOf, Am.bodyOf, Am.firstReg, Nat.beq, cond_true, cond_false, Am.splice, Am.walkW, Am.stdW, id, reduceCtorEq, Nat.reduceAdd, Nat.reduceSub, Nat.reduceMul, List.forall_mem_cons, List.forall_mem_nil, false_implies, implies_true, Try.f65, factsOf65, h8, hl2, g0, g1, g2, g3, eqS_eq, hs]
            simp [devE, hname, hm, hall, twoSame, hs]
          | false =>
            simp (decide := true) (implicitDefEqProofs := false) only [Am.findLoop, Am.loopOf, Am.bodyOf, Am.firstReg, Nat.beq, cond_true, cond_false, Am.splice, Am.walkW, Am.stdW, id, reduceCtorEq, Nat.reduceAdd, Nat.reduceSub, Nat.reduceMul, List.forall_mem_cons, List.forall_mem_nil, false_implies, implies_true, Try.f65, factsOf65, h8, hl2, g0, g1, g2, g3, eqS_eq, hs]
            simp [devE, hname, hm, hall, twoSame, hs]
        · have h2' : decide ((ns.length : Int) = 2) = false := decide_eq_false (by omega)
          have ht : twoSame ns = false := by
            match ns, h2 with
            | [], _ => rfl
            | [_], _ => rfl
            | [_, _], h => exact absurd rfl h
            | _ :: _ :: _ :: _, _ => rfl
          simp (decide := true) (implicitDefEqProofs := false) only [Am.findLoop, Am.loopOf, Am.bodyOf, Am.firstReg, Nat.beq, cond_true, cond_false, Am.splice, Am.walkW, Am.stdW, id, reduceCtorEq, Nat.reduceAdd, Nat.reduceSub, Nat.reduceMul, List.forall_mem_cons, List.forall_mem_nil, false_implies, implies_true, Try.f65, factsOf65, h8, hq.len, h2']
          simp [devE, hname, hm, hall, ht]
      · rw [if_neg hall] at hp
        obtain ⟨h5, h6⟩ := hp
        cases h5
        simp (decide := true) (implicitDefEqProofs := false) only [Am.findLoop, Am.loopOf, Am.bodyOf, Am.firstReg, Nat.beq, cond_true, cond_false, Am.splice, Am.walkW, Am.stdW, id, reduceCtorEq, Nat.reduceAdd, Nat.reduceSub, Nat.reduceMul, List.forall_mem_cons, List.forall_mem_nil, false_implies, implies_true, Try.f65, factsOf65, h6]
        simp [devE, hname, hm, hall]
end Go.Proofs.Ytcclbkkgpcpikaa

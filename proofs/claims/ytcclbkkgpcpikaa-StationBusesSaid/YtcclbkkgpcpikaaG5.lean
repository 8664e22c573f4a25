import Derived.Test.YtcclbkkgpcpikaaG4
set_option linter.unusedSimpArgs false
set_option linter.unusedVariables false
namespace Go.Proofs.Ytcclbkkgpcpikaa
open Go.Am
set_option maxRecDepth 100000
structure Sw where
  name : ByteArray
  a : ByteArray
  b : ByteArray
  brk : Bool
  opn : Bool
structure Gn where
  name : ByteArray
  node : ByteArray
  least : Int
  most : Int
  ramp : Int
structure Ld where
  name : ByteArray
  node : ByteArray
  demand : Int
structure So where
  name : ByteArray
  node : ByteArray
  charge : Int
  discharge : Int
  capacity : Int
structure Net where
  nodes : List ByteArray
  sw : List Sw
  br : List Br
  gn : List Gn
  ld : List Ld
  so : List So
def encSw (x : Sw) : List PV := [.str x.name, .str x.a, .str x.b, .bool x.brk, .bool x.opn]
def encGn (x : Gn) : List PV := [.str x.name, .str x.node, .int .i64 x.least, .int .i64 x.most, .int .i64 x.ramp]
def encLd (x : Ld) : List PV := [.str x.name, .str x.node, .int .i64 x.demand]
def encSo (x : So) : List PV := [.str x.name, .str x.node, .int .i64 x.charge, .int .i64 x.discharge, .int .i64 x.capacity]
/-- A network that came in. -/
structure NetQ (n : Net) (q0 q1 q2 q3 q4 q5 : PV) : Prop where
  h0 : Sl q0 (n.nodes.map encS)
  h1 : Sl q1 (n.sw.map encSw)
  h2 : Sl q2 (n.br.map encB)
  h3 : Sl q3 (n.gn.map encGn)
  h4 : Sl q4 (n.ld.map encLd)
  h5 : Sl q5 (n.so.map encSo)
  z0 : ∀ s ∈ n.nodes, s.size ≤ reachBytes
  z1 : ∀ x ∈ n.sw, x.name.size ≤ reachBytes
  z2 : ∀ x ∈ n.br, x.name.size ≤ reachBytes
  z3 : ∀ x ∈ n.gn, x.name.size ≤ reachBytes
  z4 : ∀ x ∈ n.ld, x.name.size ≤ reachBytes
  z5 : ∀ x ∈ n.so, x.name.size ≤ reachBytes
/-- A name that is met, with the nodes that must be there. -/
structure Item where
  name : ByteArray
  ns : List ByteArray
  bad : Bool
def itE (nodes seen : List ByteArray) (x : Item) : Int := if devE nodes seen x.name x.ns = 0 then (if x.bad = true then 4 else 0) else devE nodes seen x.name x.ns
def runIt (nodes : List ByteArray) : List ByteArray → List Item → Int × List ByteArray
  | seen, [] => (0, seen)
  | seen, x :: r => if itE nodes seen x = 0 then runIt nodes (seen ++ [x.name]) r else (itE nodes seen x, seen)
theorem runIt_append (nodes : List ByteArray) : ∀ (seen : List ByteArray) (a b : List Item), runIt nodes seen (a ++ b) = if (runIt nodes seen a).1 = 0 then runIt nodes (runIt nodes seen a).2 b else runIt nodes seen a
  | seen, [], b => by simp [runIt]
  | seen, x :: a, b => by
    simp only [List.cons_append, runIt]
    by_cases h : itE nodes seen x = 0
    · simp only [if_pos h]; exact runIt_append nodes _ a b
    · simp only [if_neg h]
def nodeIt (s : ByteArray) : Item := ⟨s, [], false⟩
def swIt (x : Sw) : Item := ⟨x.name, [x.a, x.b], false⟩
def brIt (x : Br) : Item := ⟨x.name, [x.fr, x.to], branchBad x⟩
def gnIt (x : Gn) : Item := ⟨x.name, [x.node], outB x.least 0 100000 || outB x.most x.least 100000 || outB x.ramp 0 100000⟩
def ldIt (x : Ld) : Item := ⟨x.name, [x.node], outB x.demand 0 100000⟩
def soIt (x : So) : Item := ⟨x.name, [x.node], outB x.charge 0 100000 || outB x.discharge 0 100000 || outB x.capacity 0 100000⟩
def large (n : Net) : Bool := decide (24 < n.nodes.length) || decide (32 < n.sw.length) || decide (24 < n.br.length) || decide (10 < n.gn.length) || decide (12 < n.ld.length) || decide (4 < n.so.length)
def netE (n : Net) : Int := if large n = true then 2 else (runIt n.nodes [] (n.nodes.map nodeIt ++ (n.sw.map swIt ++ (n.br.map brIt ++ (n.gn.map gnIt ++ (n.ld.map ldIt ++ n.so.map soIt)))))).1
/-- How a loop over items ends. -/
def postIt (ex res : Nat) (st : List ByteArray → St) (p : Int × List ByteArray) (r : Ex × St) : Prop :=
  if p.1 = 0 then r = (.exit ex, st p.2) else r.1 = .ret ∧ Am.get r.2.tm res = some (.int .i64 p.1)
theorem postIt_bad {ex res : Nat} {st : List ByteArray → St} {nodes seen : List ByteArray} {l : List Item} {i : Nat} {x : Item} (hi : l[i]? = some x) (hb : itE nodes seen x ≠ 0) {t : St} (hs : Am.get t.tm res = some (.int .i64 (itE nodes seen x))) : postIt ex res st (runIt nodes seen (l.drop i)) (.ret, t) := by
  obtain ⟨hlt, rfl⟩ := List.getElem?_eq_some_iff.1 hi
  rw [List.drop_eq_getElem_cons hlt, runIt, if_neg hb, postIt, if_neg hb]
  exact ⟨rfl, hs⟩
theorem postIt_next {ex res : Nat} {st : List ByteArray → St} {nodes seen : List ByteArray} {l : List Item} {i : Nat} {x : Item} (hi : l[i]? = some x) (hb : itE nodes seen x = 0) {r : Ex × St} (h : postIt ex res st (runIt nodes (seen ++ [x.name]) (l.drop (i + 1))) r) : postIt ex res st (runIt nodes seen (l.drop i)) r := by
  obtain ⟨hlt, rfl⟩ := List.getElem?_eq_some_iff.1 hi
  rw [List.drop_eq_getElem_cons hlt, runIt, if_pos hb]
  exact h
theorem postIt_end {ex res : Nat} {st : List ByteArray → St} {nodes seen : List ByteArray} {l : List Item} {i : Nat} (hi : l.length ≤ i) {t : St} (hs : t = st seen) : postIt ex res st (runIt nodes seen (l.drop i)) (.exit ex, t) := by
  rw [List.drop_eq_nil_of_le hi, runIt, postIt, if_pos rfl, hs]
theorem seen_flat (seen : List ByteArray) : flatM (.map (encSeen seen)) = true := by
  simp [flatM, encSeen, List.all_map, noIds]

noncomputable def rowN (q0 q1 q2 q3 q4 q5 : PV) : Mem := .row [[q0, q1, q2, q3, q4, q5]] 6 true
noncomputable def canonCk (q0 q1 q2 q3 q4 q5 : PV) (a b c : Nat) (q : PV) (len i : Nat) (seen : List ByteArray) : St :=
  ⟨[(1, .ptr 0 0 0), (3, .ptr 1 0 0), (a, q), (b, .int .i64 len), (c, .int .i64 i)], [.row [[q0, q1, q2, q3, q4, q5]] 6 true, .row [[.map 2, q0]] 2 true, .map (encSeen seen)]⟩
theorem nodeIt_get {l : List ByteArray} {i : Nat} (hi : i < l.length) : (l.map nodeIt)[i]? = some (nodeIt l[i]) := by simp [hi]
set_option maxHeartbeats 4000000 in
theorem check_nodes (n : Net) (q0 q1 q2 q3 q4 q5 : PV) (hq : NetQ n q0 q1 q2 q3 q4 q5) (hl : n.nodes.length ≤ 24) : ∀ (a : Nat × List ByteArray) (t : St), a.1 ≤ n.nodes.length →
    maskK (hints.keep 22 (firstReg (loopOf Try.f22 5))) ⟨22, 0, 114⟩ t = some (canonCk q0 q1 q2 q3 q4 q5 53 54 55 q0 n.nodes.length a.1 a.2) →
    Holds (L0.ex ⟨22, 0, 114⟩ (.loop (loopOf Try.f22 5)) t) (postIt 0 2 (fun seen => ⟨(56, .bool false) :: (canonCk q0 q1 q2 q3 q4 q5 53 54 55 q0 n.nodes.length n.nodes.length seen).tm, (canonCk q0 q1 q2 q3 q4 q5 53 54 55 q0 0 0 seen).hp⟩) (runIt n.nodes a.2 ((n.nodes.map nodeIt).drop a.1))) := by
  refine loop_rule (σ := Nat × List ByteArray) (c := ⟨22, 0, 114⟩) (b := loopOf Try.f22 5) (fun a => canonCk q0 q1 q2 q3 q4 q5 53 54 55 q0 n.nodes.length a.1 a.2) (fun a => a.1 ≤ n.nodes.length) (fun a => n.nodes.length - a.1) _ ?_
  rintro ⟨i, seen⟩ hi
  simp only at hi
  obtain ⟨a1, a2, a3, a4, a5, a6, a7⟩ := hq.h0.ids
  obtain ⟨b1, b2, b3, b4, b5, b6, b7⟩ := hq.h1.ids
  obtain ⟨c1, c2, c3, c4, c5, c6, c7⟩ := hq.h2.ids
  obtain ⟨d1, d2, d3, d4, d5, d6, d7⟩ := hq.h3.ids
  obtain ⟨e1, e2, e3, e4, e5, e6, e7⟩ := hq.h4.ids
  obtain ⟨f1, f2, f3, f4, f5, f6, f7⟩ := hq.h5.ids
  by_cases hlt : i < n.nodes.length
  · have hix := fun H => index_sl (P := Try.prog) (H := H) hq.h0 slZ41 (k := .i64) (j := i) (by omega) (encS_get hlt) rfl
    have hlt' : decide ((i : Int) < n.nodes.length) = true := decide_eq_true (by omega)
    have hw : IntKind.i64.wrap ((i : Int) + 1) = ((i + 1 : Nat) : Int) := wrap64 (by omega) (by omega)
    have hget := nodeIt_get hlt
    generalize hsx : n.nodes[i] = sx at hix hget
    have hszx : sx.size ≤ reachBytes := by rw [← hsx]; exact hq.z0 _ (List.getElem_mem _)
    obtain ⟨⟨v, H'⟩, hr, hv, hH⟩ := device_run [.row [[q0, q1, q2, q3, q4, q5]] 6 true, .row [[.map 2, q0]] 2 true, .map (encSeen seen)] 2 q0 .nils n.nodes seen [] sx hq.h0 (by unfold maxLen; omega) (by simp) hszx rfl (.inl (.inl ⟨rfl, rfl⟩))
    simp only at hv hH
    subst hv
    have hit : itE n.nodes seen (nodeIt sx) = devE n.nodes seen sx [] := by
      unfold itE nodeIt
      simp only [Bool.false_eq_true, if_false]
      split <;> simp_all
    have hsf := seen_flat (seen ++ [sx])
    by_cases hd : devE n.nodes seen sx [] = 0
    · have hH' := hH hd
      subst hH'
      rw [hd] at hr
      simp (decide := true) (implicitDefEqProofs := false) only [Am.findLoop, Am.loopOf, Am.bodyOf, Am.firstReg, Nat.beq, cond_true, cond_false, Am.splice, Am.walkW, Am.stdW, id, reduceCtorEq, Nat.reduceAdd, Nat.reduceSub, Nat.reduceMul, List.forall_mem_cons, List.forall_mem_nil, false_implies, implies_true, Try.f22, factsOf22, canonCk, hix, hlt', hw, keep22_5, hr, devH, hsf, a1, a2, a3, a4, a5, a6, a7, b7, c7, d7, e7, f7, Am.compactK, Am.idsT, Am.closeStep, Am.keepW, Am.kstdW]
      exact ⟨(i + 1, seen ++ [sx]), rfl, hlt, by simp only; omega, fun r hr => postIt_next hget (by rw [hit]; exact hd) hr⟩
    · have hd' : decide (devE n.nodes seen sx [] = 0) = false := decide_eq_false hd
      simp (decide := true) (implicitDefEqProofs := false) only [Am.findLoop, Am.loopOf, Am.bodyOf, Am.firstReg, Nat.beq, cond_true, cond_false, Am.splice, Am.walkW, Am.stdW, id, reduceCtorEq, Nat.reduceAdd, Nat.reduceSub, Nat.reduceMul, List.forall_mem_cons, List.forall_mem_nil, false_implies, implies_true, Try.f22, factsOf22, canonCk, hix, hlt', hw, keep22_5, hr, hd']
      exact postIt_bad hget (by rw [hit]; exact hd) (by rw [hit]; rfl)
  · have hlt' : decide ((i : Int) < n.nodes.length) = false := decide_eq_false (by omega)
    simp (decide := true) (implicitDefEqProofs := false) only [Am.findLoop, Am.loopOf, Am.bodyOf, Am.firstReg, Nat.beq, cond_true, cond_false, Am.splice, Am.walkW, Am.stdW, id, reduceCtorEq, Nat.reduceAdd, Nat.reduceSub, Nat.reduceMul, List.forall_mem_cons, List.forall_mem_nil, false_implies, implies_true, Try.f22, factsOf22, canonCk, hlt']
    refine postIt_end (by simp; omega) ?_
    have : i = n.nodes.length := by omega
    rw [this]
theorem swIt_get {l : List Sw} {i : Nat} (hi : i < l.length) : (l.map swIt)[i]? = some (swIt l[i]) := by simp [hi]
theorem encSw_get {l : List Sw} {i : Nat} (hi : i < l.length) : (l.map encSw)[(i : Int).toNat]? = some (encSw l[i]) := by simp [hi]
set_option maxHeartbeats 4000000 in
theorem check_sw (n : Net) (q0 q1 q2 q3 q4 q5 : PV) (hq : NetQ n q0 q1 q2 q3 q4 q5) (hn24 : n.nodes.length ≤ 24) (hl : n.sw.length ≤ 32) : ∀ (a : Nat × List ByteArray) (t : St), a.1 ≤ n.sw.length →
    maskK (hints.keep 22 (firstReg (loopOf Try.f22 12))) ⟨22, 0, 114⟩ t = some (canonCk q0 q1 q2 q3 q4 q5 67 68 69 q1 n.sw.length a.1 a.2) →
    Holds (L0.ex ⟨22, 0, 114⟩ (.loop (loopOf Try.f22 12)) t) (postIt 2 2 (fun seen => ⟨(70, .bool false) :: (canonCk q0 q1 q2 q3 q4 q5 67 68 69 q1 n.sw.length n.sw.length seen).tm, (canonCk q0 q1 q2 q3 q4 q5 67 68 69 q1 0 0 seen).hp⟩) (runIt n.nodes a.2 ((n.sw.map swIt).drop a.1))) := by
  refine loop_rule (σ := Nat × List ByteArray) (c := ⟨22, 0, 114⟩) (b := loopOf Try.f22 12) (fun a => canonCk q0 q1 q2 q3 q4 q5 67 68 69 q1 n.sw.length a.1 a.2) (fun a => a.1 ≤ n.sw.length) (fun a => n.sw.length - a.1) _ ?_
  rintro ⟨i, seen⟩ hi
  simp only at hi
  obtain ⟨a1, a2, a3, a4, a5, a6, a7⟩ := hq.h0.ids
  obtain ⟨b1, b2, b3, b4, b5, b6, b7⟩ := hq.h1.ids
  obtain ⟨c1, c2, c3, c4, c5, c6, c7⟩ := hq.h2.ids
  obtain ⟨d1, d2, d3, d4, d5, d6, d7⟩ := hq.h3.ids
  obtain ⟨e1, e2, e3, e4, e5, e6, e7⟩ := hq.h4.ids
  obtain ⟨f1, f2, f3, f4, f5, f6, f7⟩ := hq.h5.ids
  by_cases hlt : i < n.sw.length
  · have hix := fun H => index_sl (P := Try.prog) (H := H) hq.h1 slZ42 (k := .i64) (j := i) (by omega) (encSw_get hlt) rfl
    have hlt' : decide ((i : Int) < n.sw.length) = true := decide_eq_true (by omega)
    have hw : IntKind.i64.wrap ((i : Int) + 1) = ((i + 1 : Nat) : Int) := wrap64 (by omega) (by omega)
    have hget := swIt_get hlt
    generalize hsx : n.sw[i] = x at hix hget
    have hszx : x.name.size ≤ reachBytes := by rw [← hsx]; exact hq.z1 _ (List.getElem_mem _)
    obtain ⟨⟨v, H'⟩, hr, hv, hH⟩ := device_run [.row [[q0, q1, q2, q3, q4, q5]] 6 true, .row [[.map 2, q0]] 2 true, .map (encSeen seen), .row [encSw x] 5 true, .row [[.str x.a], [.str x.b]] 1 true] 2 q0 (.ref 4 0 2 2) n.nodes seen [x.a, x.b] x.name hq.h0 (by unfold maxLen; omega) (by simp [maxLen]) hszx rfl (.inr ⟨4, 2, true, rfl, rfl⟩)
    simp only at hv hH
    subst hv
    simp only [encSw] at hr hix
    have hsf := seen_flat (seen ++ [x.name])
    by_cases hd : devE n.nodes seen x.name [x.a, x.b] = 0
    · have hH' := hH hd
      subst hH'
      rw [hd] at hr
      have hit : itE n.nodes seen (swIt x) = 0 := by
        unfold itE swIt
        simp only [hd, if_true, Bool.false_eq_true, if_false]
      simp (decide := true) (implicitDefEqProofs := false) only [Am.findLoop, Am.loopOf, Am.bodyOf, Am.firstReg, Nat.beq, cond_true, cond_false, Am.splice, Am.walkW, Am.stdW, id, reduceCtorEq, Nat.reduceAdd, Nat.reduceSub, Nat.reduceMul, List.forall_mem_cons, List.forall_mem_nil, false_implies, implies_true, Try.f22, factsOf22, canonCk, hix, hlt', hw, keep22_12, hr, devH, hsf, a1, a2, a3, a4, a5, a6, a7, b7, c7, d7, e7, f7, b1, b2, b3, b4, b5, b6, List.replicate_succ, List.replicate_zero, buildSliceM, fillRow, Am.compactK, Am.idsT, Am.closeStep, Am.keepW, Am.kstdW]
      exact ⟨(i + 1, seen ++ [x.name]), rfl, hlt, by simp only; omega, fun r hr => postIt_next hget hit hr⟩
    · have hd' : decide (devE n.nodes seen x.name [x.a, x.b] = 0) = false := decide_eq_false hd
      have hit : itE n.nodes seen (swIt x) = devE n.nodes seen x.name [x.a, x.b] := by
        unfold itE swIt
        simp only [if_neg hd]
      simp (decide := true) (implicitDefEqProofs := false) only [Am.findLoop, Am.loopOf, Am.bodyOf, Am.firstReg, Nat.beq, cond_true, cond_false, Am.splice, Am.walkW, Am.stdW, id, reduceCtorEq, Nat.reduceAdd, Nat.reduceSub, Nat.reduceMul, List.forall_mem_cons, List.forall_mem_nil, false_implies, implies_true, Try.f22, factsOf22, canonCk, hix, hlt', hw, keep22_12, hr, hd', List.replicate_succ, List.replicate_zero, buildSliceM, fillRow]
      exact postIt_bad hget (by rw [hit]; exact hd) (by rw [hit]; rfl)
  · have hlt' : decide ((i : Int) < n.sw.length) = false := decide_eq_false (by omega)
    simp (decide := true) (implicitDefEqProofs := false) only [Am.findLoop, Am.loopOf, Am.bodyOf, Am.firstReg, Nat.beq, cond_true, cond_false, Am.splice, Am.walkW, Am.stdW, id, reduceCtorEq, Nat.reduceAdd, Nat.reduceSub, Nat.reduceMul, List.forall_mem_cons, List.forall_mem_nil, false_implies, implies_true, Try.f22, factsOf22, canonCk, hlt']
    refine postIt_end (by simp; omega) ?_
    have : i = n.sw.length := by omega
    rw [this]
theorem brIt_get {l : List Br} {i : Nat} (hi : i < l.length) : (l.map brIt)[i]? = some (brIt l[i]) := by simp [hi]
theorem encB_get {l : List Br} {i : Nat} (hi : i < l.length) : (l.map encB)[(i : Int).toNat]? = some (encB l[i]) := by simp [hi]
set_option maxHeartbeats 4000000 in
theorem check_br (n : Net) (q0 q1 q2 q3 q4 q5 : PV) (hq : NetQ n q0 q1 q2 q3 q4 q5) (hn24 : n.nodes.length ≤ 24) (hl : n.br.length ≤ 24) : ∀ (a : Nat × List ByteArray) (t : St), a.1 ≤ n.br.length →
    maskK (hints.keep 22 (firstReg (loopOf Try.f22 19))) ⟨22, 0, 114⟩ t = some (canonCk q0 q1 q2 q3 q4 q5 87 88 89 q2 n.br.length a.1 a.2) →
    Holds (L0.ex ⟨22, 0, 114⟩ (.loop (loopOf Try.f22 19)) t) (postIt 4 2 (fun seen => ⟨(90, .bool false) :: (canonCk q0 q1 q2 q3 q4 q5 87 88 89 q2 n.br.length n.br.length seen).tm, (canonCk q0 q1 q2 q3 q4 q5 87 88 89 q2 0 0 seen).hp⟩) (runIt n.nodes a.2 ((n.br.map brIt).drop a.1))) := by
  refine loop_rule (σ := Nat × List ByteArray) (c := ⟨22, 0, 114⟩) (b := loopOf Try.f22 19) (fun a => canonCk q0 q1 q2 q3 q4 q5 87 88 89 q2 n.br.length a.1 a.2) (fun a => a.1 ≤ n.br.length) (fun a => n.br.length - a.1) _ ?_
  rintro ⟨i, seen⟩ hi
  simp only at hi
  obtain ⟨a1, a2, a3, a4, a5, a6, a7⟩ := hq.h0.ids
  obtain ⟨b1, b2, b3, b4, b5, b6, b7⟩ := hq.h1.ids
  obtain ⟨c1, c2, c3, c4, c5, c6, c7⟩ := hq.h2.ids
  obtain ⟨d1, d2, d3, d4, d5, d6, d7⟩ := hq.h3.ids
  obtain ⟨e1, e2, e3, e4, e5, e6, e7⟩ := hq.h4.ids
  obtain ⟨f1, f2, f3, f4, f5, f6, f7⟩ := hq.h5.ids
  by_cases hlt : i < n.br.length
  · have hix := fun H => index_sl (P := Try.prog) (H := H) hq.h2 slZ43 (k := .i64) (j := i) (by omega) (encB_get hlt) rfl
    have hlt' : decide ((i : Int) < n.br.length) = true := decide_eq_true (by omega)
    have hw : IntKind.i64.wrap ((i : Int) + 1) = ((i + 1 : Nat) : Int) := wrap64 (by omega) (by omega)
    have hget := brIt_get hlt
    generalize hsx : n.br[i] = x at hix hget
    have hszx : x.name.size ≤ reachBytes := by rw [← hsx]; exact hq.z2 _ (List.getElem_mem _)
    obtain ⟨⟨v, H'⟩, hr, hv, hH⟩ := device_run [.row [[q0, q1, q2, q3, q4, q5]] 6 true, .row [[.map 2, q0]] 2 true, .map (encSeen seen), .row [encB x] 9 true, .row [[.str x.fr], [.str x.to]] 1 true] 2 q0 (.ref 4 0 2 2) n.nodes seen [x.fr, x.to] x.name hq.h0 (by unfold maxLen; omega) (by simp [maxLen]) hszx rfl (.inr ⟨4, 2, true, rfl, rfl⟩)
    simp only at hv hH
    subst hv
    simp only [encB] at hr hix
    have hsf := seen_flat (seen ++ [x.name])
    by_cases hd : devE n.nodes seen x.name [x.fr, x.to] = 0
    · have hH' := hH hd
      subst hH'
      rw [hd] at hr
      have hbc := branch_call x
      simp only [encB] at hbc
      cases hbb : branchBad x with
      | false =>
        have hit : itE n.nodes seen (brIt x) = 0 := by
          unfold itE brIt
          simp only [hd, hbb, if_true, Bool.false_eq_true, if_false]
        have hbe : branchE x = 0 := by simp [branchE, hbb]
        simp (decide := true) (implicitDefEqProofs := false) only [Am.findLoop, Am.loopOf, Am.bodyOf, Am.firstReg, Nat.beq, cond_true, cond_false, Am.splice, Am.walkW, Am.stdW, id, reduceCtorEq, Nat.reduceAdd, Nat.reduceSub, Nat.reduceMul, List.forall_mem_cons, List.forall_mem_nil, false_implies, implies_true, Try.f22, factsOf22, canonCk, hix, hlt', hw, keep22_19, hr, devH, hsf, a1, a2, a3, a4, a5, a6, a7, b7, c7, d7, e7, f7, c1, c2, c3, c4, c5, c6, List.replicate_succ, List.replicate_zero, buildSliceM, fillRow, Am.compactK, Am.idsT, Am.closeStep, Am.keepW, Am.kstdW, hbc, hbe, exp_agg, plain_str, plain_int, encB]
        exact ⟨(i + 1, seen ++ [x.name]), rfl, hlt, by simp only; omega, fun r hr => postIt_next hget hit hr⟩
      | true =>
        have hit : itE n.nodes seen (brIt x) = 4 := by
          unfold itE brIt
          simp only [hd, hbb, if_true]
        have hbe : branchE x = 4 := by simp [branchE, hbb]
        simp (decide := true) (implicitDefEqProofs := false) only [Am.findLoop, Am.loopOf, Am.bodyOf, Am.firstReg, Nat.beq, cond_true, cond_false, Am.splice, Am.walkW, Am.stdW, id, reduceCtorEq, Nat.reduceAdd, Nat.reduceSub, Nat.reduceMul, List.forall_mem_cons, List.forall_mem_nil, false_implies, implies_true, Try.f22, factsOf22, canonCk, hix, hlt', hw, keep22_19, hr, devH, hsf, a1, a2, a3, a4, a5, a6, a7, b7, c7, d7, e7, f7, c1, c2, c3, c4, c5, c6, List.replicate_succ, List.replicate_zero, buildSliceM, fillRow, Am.compactK, Am.idsT, Am.closeStep, Am.keepW, Am.kstdW, hbc, hbe, exp_agg, plain_str, plain_int, encB]
        exact postIt_bad hget (by rw [hit]; decide) (by rw [hit]; rfl)
    · have hd' : decide (devE n.nodes seen x.name [x.fr, x.to] = 0) = false := decide_eq_false hd
      have hit : itE n.nodes seen (brIt x) = devE n.nodes seen x.name [x.fr, x.to] := by
        unfold itE brIt
        simp only [if_neg hd]
      simp (decide := true) (implicitDefEqProofs := false) only [Am.findLoop, Am.loopOf, Am.bodyOf, Am.firstReg, Nat.beq, cond_true, cond_false, Am.splice, Am.walkW, Am.stdW, id, reduceCtorEq, Nat.reduceAdd, Nat.reduceSub, Nat.reduceMul, List.forall_mem_cons, List.forall_mem_nil, false_implies, implies_true, Try.f22, factsOf22, canonCk, hix, hlt', hw, keep22_19, hr, hd', List.replicate_succ, List.replicate_zero, buildSliceM, fillRow]
      exact postIt_bad hget (by rw [hit]; exact hd) (by rw [hit]; rfl)
  · have hlt' : decide ((i : Int) < n.br.length) = false := decide_eq_false (by omega)
    simp (decide := true) (implicitDefEqProofs := false) only [Am.findLoop, Am.loopOf, Am.bodyOf, Am.firstReg, Nat.beq, cond_true, cond_false, Am.splice, Am.walkW, Am.stdW, id, reduceCtorEq, Nat.reduceAdd, Nat.reduceSub, Nat.reduceMul, List.forall_mem_cons, List.forall_mem_nil, false_implies, implies_true, Try.f22, factsOf22, canonCk, hlt']
    refine postIt_end (by simp; omega) ?_
    have : i = n.br.length := by omega
    rw [this]
end Go.Proofs.Ytcclbkkgpcpikaa

import Derived.Test.YtcclbkkgpcpikaaG2
set_option linter.unusedSimpArgs false
set_option linter.unusedVariables false
namespace Go.Proofs.Ytcclbkkgpcpikaa
open Go.Am
set_option maxRecDepth 100000
def eqS (a b : ByteArray) : Bool := a.data.toList == b.data.toList
theorem eqS_eq (a b : ByteArray) : (a.data.toList == b.data.toList) = eqS a b := rfl
theorem eqS_comm (a b : ByteArray) : eqS a b = eqS b a := by unfold eqS; exact Bool.beq_comm
def encS (s : ByteArray) : List PV := [.str s]
def placeFrom (name : ByteArray) : Nat → List ByteArray → Option Nat
  | _, [] => none
  | i, x :: r => if eqS name x = true then some i else placeFrom name (i + 1) r
def placeI (name : ByteArray) (l : List ByteArray) : Int := match placeFrom name 0 l with | some k => k | none => -1
def memS (name : ByteArray) (l : List ByteArray) : Bool := l.any (eqS name)
theorem placeFrom_mem (name : ByteArray) : ∀ (i : Nat) (l : List ByteArray), (placeFrom name i l).isSome = memS name l
  | _, [] => rfl
  | i, x :: r => by
    simp only [placeFrom, memS, List.any_cons]
    cases h : eqS name x with
    | true => simp
    | false => simpa [memS] using placeFrom_mem name (i + 1) r
theorem placeI_mem (name : ByteArray) (l : List ByteArray) : decide (0 ≤ placeI name l) = memS name l := by
  rw [← placeFrom_mem name 0 l]
  unfold placeI
  cases placeFrom name 0 l with
  | none => rfl
  | some k => simp
def postIx (name : ByteArray) (l : List ByteArray) (i : Nat) (r : Ex × St) : Prop :=
  match placeFrom name i (l.drop i) with
  | some k => r.1 = .ret ∧ Am.get r.2.tm 4 = some (.int .i64 (k : Nat))
  | none => r.1 = .exit 0
theorem postIx_hit {name : ByteArray} {l : List ByteArray} {i : Nat} (hi : i < l.length) (hb : eqS name l[i] = true) {t : St} (hs : Am.get t.tm 4 = some (.int .i64 (i : Nat))) : postIx name l i (.ret, t) := by
  unfold postIx
  rw [List.drop_eq_getElem_cons hi, placeFrom, if_pos hb]
  exact ⟨rfl, hs⟩
theorem postIx_next {name : ByteArray} {l : List ByteArray} {i : Nat} (hi : i < l.length) (hb : eqS name l[i] = false) {r : Ex × St} (h : postIx name l (i + 1) r) : postIx name l i r := by
  unfold postIx at h ⊢
  rw [List.drop_eq_getElem_cons hi, placeFrom, if_neg (by rw [hb]; simp)]
  exact h
theorem postIx_end {name : ByteArray} {l : List ByteArray} {i : Nat} (hi : ¬ i < l.length) {t : St} : postIx name l i (.exit 0, t) := by
  unfold postIx
  rw [List.drop_eq_nil_of_le (by omega)]
  rfl
theorem encS_get {l : List ByteArray} {i : Nat} (hi : i < l.length) : (l.map encS)[(i : Int).toNat]? = some [.str l[i]] := by simp [hi, encS]

noncomputable def canonIx (name : ByteArray) (q : PV) (len i : Nat) : St := ⟨[(0, q), (1, .str name), (7, .int .i64 len), (8, .int .i64 i)], []⟩
set_option maxHeartbeats 2000000 in
theorem index_loop (q : PV) (l : List ByteArray) (hq : Sl q (l.map encS)) (name : ByteArray) (hl : l.length ≤ maxLen) : ∀ (i : Nat) (t : St), i ≤ l.length → maskK (hints.keep 78 (firstReg (loopOf Try.f78 2))) ⟨78, 0, 19⟩ t = some (canonIx name q l.length i) →
    Holds (L0.ex ⟨78, 0, 19⟩ (.loop (loopOf Try.f78 2)) t) (postIx name l i) := by
  refine loop_rule (c := ⟨78, 0, 19⟩) (b := loopOf Try.f78 2) (canonIx name q l.length) (fun i => i ≤ l.length) (fun i => l.length - i) (postIx name l) ?_
  intro i hi
  have hf := hq.flat
  unfold maxLen at hl
  by_cases hlt : i < l.length
  · have hix := fun H => index_sl (P := Try.prog) (H := H) hq slZ41 (k := .i64) (j := i) (by omega) (encS_get hlt) rfl
    have hlt' : decide ((i : Int) < l.length) = true := decide_eq_true (by omega)
    have hw : IntKind.i64.wrap ((i : Int) + 1) = ((i + 1 : Nat) : Int) := wrap64 (by omega) (by omega)
    cases hb : eqS name l[i] with
    | true =>
      simp (decide := true) (implicitDefEqProofs := false) only [Am.findLoop, Am.loopOf, Am.bodyOf, Am.firstReg, Nat.beq, cond_true, cond_false, Am.splice, Am.walkW, Am.stdW, id, reduceCtorEq, Nat.reduceAdd, Nat.reduceSub, Nat.reduceMul, List.forall_mem_cons, List.forall_mem_nil, false_implies, implies_true, Try.f78, factsOf78, canonIx, hix, hlt', hw, keep78_2, hf, eqS_eq, hb]
      exact postIx_hit hlt hb rfl
    | false =>
      simp (decide := true) (implicitDefEqProofs := false) only [Am.findLoop, Am.loopOf, Am.bodyOf, Am.firstReg, Nat.beq, cond_true, cond_false, Am.splice, Am.walkW, Am.stdW, id, reduceCtorEq, Nat.reduceAdd, Nat.reduceSub, Nat.reduceMul, List.forall_mem_cons, List.forall_mem_nil, false_implies, implies_true, Try.f78, factsOf78, canonIx, hix, hlt', hw, keep78_2, hf, eqS_eq, hb]
      exact ⟨i + 1, rfl, hlt, by omega, fun r hr => postIx_next hlt hb hr⟩
  · have hlt' : decide ((i : Int) < l.length) = false := decide_eq_false (by omega)
    simp (decide := true) (implicitDefEqProofs := false) only [Am.findLoop, Am.loopOf, Am.bodyOf, Am.firstReg, Nat.beq, cond_true, cond_false, Am.splice, Am.walkW, Am.stdW, id, reduceCtorEq, Nat.reduceAdd, Nat.reduceSub, Nat.reduceMul, List.forall_mem_cons, List.forall_mem_nil, false_implies, implies_true, Try.f78, factsOf78, canonIx, hlt']
    exact postIx_end hlt
set_option maxHeartbeats 2000000 in
theorem index_run (q : PV) (l : List ByteArray) (hq : Sl q (l.map encS)) (name : ByteArray) (hl : l.length ≤ maxLen) : Holds (L0.rn 78 [q, .str name] []) (fun r => r.1 = .int .i64 (placeI name l)) := by
  have hlen := fun H => len_sl (P := Try.prog) (H := H) hq slZ41
  rw [List.length_map] at hlen
  have hf := hq.flat
  refine rn_rule (fn := Try.f78) (code := bodyOf Try.f78) ok78 Try.func78 (by kernel_rfl) (Nat.le_of_ble_eq_true (by kernel_rfl)) ?_
  simp (decide := true) (implicitDefEqProofs := false) only [Am.findLoop, Am.loopOf, Am.bodyOf, Am.firstReg, Nat.beq, cond_true, cond_false, Am.splice, Am.walkW, Am.stdW, id, reduceCtorEq, Nat.reduceAdd, Nat.reduceSub, Nat.reduceMul, List.forall_mem_cons, List.forall_mem_nil, false_implies, implies_true, Try.f78, factsOf78, hlen]
  rw [holds_bind, holds_bind]
  refine (index_loop q l hq name hl 0 _ (by omega) ?_).mono ?_
  · show maskK (hints.keep 78 2) _ _ = _
    simp (decide := true) (implicitDefEqProofs := false) only [Am.findLoop, Am.loopOf, Am.bodyOf, Am.firstReg, Nat.beq, cond_true, cond_false, Am.splice, Am.walkW, Am.stdW, id, reduceCtorEq, Nat.reduceAdd, Nat.reduceSub, Nat.reduceMul, List.forall_mem_cons, List.forall_mem_nil, false_implies, implies_true, Try.f78, factsOf78, keep78_2, canonIx, hf]
    rfl
  · rintro ⟨e, s'⟩ hp
    unfold postIx at hp
    rw [List.drop_zero] at hp
    unfold placeI
    split at hp
    · rename_i k hk
      obtain ⟨h5, h6⟩ := hp
      cases h5
      simp (decide := true) (implicitDefEqProofs := false) only [Am.findLoop, Am.loopOf, Am.bodyOf, Am.firstReg, Nat.beq, cond_true, cond_false, Am.splice, Am.walkW, Am.stdW, id, reduceCtorEq, Nat.reduceAdd, Nat.reduceSub, Nat.reduceMul, List.forall_mem_cons, List.forall_mem_nil, false_implies, implies_true, Try.f78, factsOf78, h6, hk]
    · rename_i hk
      cases hp
      simp (decide := true) (implicitDefEqProofs := false) only [Am.findLoop, Am.loopOf, Am.bodyOf, Am.firstReg, Nat.beq, cond_true, cond_false, Am.splice, Am.walkW, Am.stdW, id, reduceCtorEq, Nat.reduceAdd, Nat.reduceSub, Nat.reduceMul, List.forall_mem_cons, List.forall_mem_nil, false_implies, implies_true, Try.f78, factsOf78, hk]
theorem index_call (q : PV) (l : List ByteArray) (hq : Sl q (l.map encS)) (name : ByteArray) (hl : l.length ≤ maxLen) : pureCall hints L0 78 [q, .str name] = some (.int .i64 (placeI name l)) :=
  pure_of prim78 ((index_run q l hq name hl).mono fun r hr => by rw [hr]; rfl)
theorem contains_run (q : PV) (l : List ByteArray) (hq : Sl q (l.map encS)) (name : ByteArray) (hl : l.length ≤ maxLen) : Holds (L0.rn 104 [q, .str name] []) (fun r => r.1 = .bool (memS name l)) := by
  have hc := index_call q l hq name hl
  have hx := fun H => hq.plain.exp (H := H)
  refine rn_rule (fn := Try.f104) (code := bodyOf Try.f104) ok104 Try.func104 (by kernel_rfl) (Nat.le_of_ble_eq_true (by kernel_rfl)) ?_
  simp (decide := true) (implicitDefEqProofs := false) only [Am.findLoop, Am.loopOf, Am.bodyOf, Am.firstReg, Nat.beq, cond_true, cond_false, Am.splice, Am.walkW, Am.stdW, id, reduceCtorEq, Nat.reduceAdd, Nat.reduceSub, Nat.reduceMul, List.forall_mem_cons, List.forall_mem_nil, false_implies, implies_true, Try.f104, factsOf104, hc, hx, placeI_mem]
theorem contains_call (q : PV) (l : List ByteArray) (hq : Sl q (l.map encS)) (name : ByteArray) (hl : l.length ≤ maxLen) : pureCall hints L0 104 [q, .str name] = some (.bool (memS name l)) :=
  pure_of prim104 ((contains_run q l hq name hl).mono fun r hr => by rw [hr]; rfl)

noncomputable def canonPl (name : ByteArray) (q : PV) (len i : Nat) : St := ⟨[(1, .str name), (7, q), (8, .int .i64 len), (9, .int .i64 i)], []⟩
set_option maxHeartbeats 2000000 in
theorem place_loop (q : PV) (l : List ByteArray) (hq : Sl q (l.map encS)) (name : ByteArray) (hl : l.length ≤ maxLen) : ∀ (i : Nat) (t : St), i ≤ l.length → maskK (hints.keep 46 (firstReg (loopOf Try.f46 2))) ⟨46, 0, 19⟩ t = some (canonPl name q l.length i) →
    Holds (L0.ex ⟨46, 0, 19⟩ (.loop (loopOf Try.f46 2)) t) (postIx name l i) := by
  refine loop_rule (c := ⟨46, 0, 19⟩) (b := loopOf Try.f46 2) (canonPl name q l.length) (fun i => i ≤ l.length) (fun i => l.length - i) (postIx name l) ?_
  intro i hi
  have hf := hq.flat
  unfold maxLen at hl
  by_cases hlt : i < l.length
  · have hix := fun H => index_sl (P := Try.prog) (H := H) hq slZ41 (k := .i64) (j := i) (by omega) (encS_get hlt) rfl
    have hlt' : decide ((i : Int) < l.length) = true := decide_eq_true (by omega)
    have hw : IntKind.i64.wrap ((i : Int) + 1) = ((i + 1 : Nat) : Int) := wrap64 (by omega) (by omega)
    have hcm := eqS_comm l[i] name
    cases hb : eqS name l[i] with
    | true =>
      simp (decide := true) (implicitDefEqProofs := false) only [Am.findLoop, Am.loopOf, Am.bodyOf, Am.firstReg, Nat.beq, cond_true, cond_false, Am.splice, Am.walkW, Am.stdW, id, reduceCtorEq, Nat.reduceAdd, Nat.reduceSub, Nat.reduceMul, List.forall_mem_cons, List.forall_mem_nil, false_implies, implies_true, Try.f46, factsOf46, canonPl, hix, hlt', hw, keep46_2, hf, eqS_eq, hcm, hb]
      exact postIx_hit hlt hb rfl
    | false =>
      simp (decide := true) (implicitDefEqProofs := false) only [Am.findLoop, Am.loopOf, Am.bodyOf, Am.firstReg, Nat.beq, cond_true, cond_false, Am.splice, Am.walkW, Am.stdW, id, reduceCtorEq, Nat.reduceAdd, Nat.reduceSub, Nat.reduceMul, List.forall_mem_cons, List.forall_mem_nil, false_implies, implies_true, Try.f46, factsOf46, canonPl, hix, hlt', hw, keep46_2, hf, eqS_eq, hcm, hb]
      exact ⟨i + 1, rfl, hlt, by omega, fun r hr => postIx_next hlt hb hr⟩
  · have hlt' : decide ((i : Int) < l.length) = false := decide_eq_false (by omega)
    simp (decide := true) (implicitDefEqProofs := false) only [Am.findLoop, Am.loopOf, Am.bodyOf, Am.firstReg, Nat.beq, cond_true, cond_false, Am.splice, Am.walkW, Am.stdW, id, reduceCtorEq, Nat.reduceAdd, Nat.reduceSub, Nat.reduceMul, List.forall_mem_cons, List.forall_mem_nil, false_implies, implies_true, Try.f46, factsOf46, canonPl, hlt']
    exact postIx_end hlt
set_option maxHeartbeats 2000000 in
theorem place_run (q : PV) (l : List ByteArray) (hq : Sl q (l.map encS)) (name : ByteArray) (hl : l.length ≤ maxLen) : Holds (L0.rn 46 [q, .str name] []) (fun r => r.1 = .int .i64 (placeI name l)) := by
  have hlen := fun H => len_sl (P := Try.prog) (H := H) hq slZ41
  rw [List.length_map] at hlen
  have hf := hq.flat
  refine rn_rule (fn := Try.f46) (code := bodyOf Try.f46) ok46 Try.func46 (by kernel_rfl) (Nat.le_of_ble_eq_true (by kernel_rfl)) ?_
  simp (decide := true) (implicitDefEqProofs := false) only [Am.findLoop, Am.loopOf, Am.bodyOf, Am.firstReg, Nat.beq, cond_true, cond_false, Am.splice, Am.walkW, Am.stdW, id, reduceCtorEq, Nat.reduceAdd, Nat.reduceSub, Nat.reduceMul, List.forall_mem_cons, List.forall_mem_nil, false_implies, implies_true, Try.f46, factsOf46, hlen]
  rw [holds_bind, holds_bind]
  refine (place_loop q l hq name hl 0 _ (by omega) ?_).mono ?_
  · show maskK (hints.keep 46 2) _ _ = _
    simp (decide := true) (implicitDefEqProofs := false) only [Am.findLoop, Am.loopOf, Am.bodyOf, Am.firstReg, Nat.beq, cond_true, cond_false, Am.splice, Am.walkW, Am.stdW, id, reduceCtorEq, Nat.reduceAdd, Nat.reduceSub, Nat.reduceMul, List.forall_mem_cons, List.forall_mem_nil, false_implies, implies_true, Try.f46, factsOf46, keep46_2, canonPl, hf]
    rfl
  · rintro ⟨e, s'⟩ hp
    unfold postIx at hp
    rw [List.drop_zero] at hp
    unfold placeI
    split at hp
    · rename_i k hk
      obtain ⟨h5, h6⟩ := hp
      cases h5
      simp (decide := true) (implicitDefEqProofs := false) only [Am.findLoop, Am.loopOf, Am.bodyOf, Am.firstReg, Nat.beq, cond_true, cond_false, Am.splice, Am.walkW, Am.stdW, id, reduceCtorEq, Nat.reduceAdd, Nat.reduceSub, Nat.reduceMul, List.forall_mem_cons, List.forall_mem_nil, false_implies, implies_true, Try.f46, factsOf46, h6, hk]
    · rename_i hk
      cases hp
      simp (decide := true) (implicitDefEqProofs := false) only [Am.findLoop, Am.loopOf, Am.bodyOf, Am.firstReg, Nat.beq, cond_true, cond_false, Am.splice, Am.walkW, Am.stdW, id, reduceCtorEq, Nat.reduceAdd, Nat.reduceSub, Nat.reduceMul, List.forall_mem_cons, List.forall_mem_nil, false_implies, implies_true, Try.f46, factsOf46, hk]
theorem place_call (q : PV) (l : List ByteArray) (hq : Sl q (l.map encS)) (name : ByteArray) (hl : l.length ≤ maxLen) : pureCall hints L0 46 [q, .str name] = some (.int .i64 (placeI name l)) :=
  pure_of prim46 ((place_run q l hq name hl).mono fun r hr => by rw [hr]; rfl)
theorem has_run (q : PV) (l : List ByteArray) (hq : Sl q (l.map encS)) (name : ByteArray) (hl : l.length ≤ maxLen) : Holds (L0.rn 42 [q, .str name] []) (fun r => r.1 = .bool (memS name l)) := by
  have hc := place_call q l hq name hl
  have hx := fun H => hq.plain.exp (H := H)
  refine rn_rule (fn := Try.f42) (code := bodyOf Try.f42) ok42 Try.func42 (by kernel_rfl) (Nat.le_of_ble_eq_true (by kernel_rfl)) ?_
  simp (decide := true) (implicitDefEqProofs := false) only [Am.findLoop, Am.loopOf, Am.bodyOf, Am.firstReg, Nat.beq, cond_true, cond_false, Am.splice, Am.walkW, Am.stdW, id, reduceCtorEq, Nat.reduceAdd, Nat.reduceSub, Nat.reduceMul, List.forall_mem_cons, List.forall_mem_nil, false_implies, implies_true, Try.f42, factsOf42, hc, hx, placeI_mem]
theorem has_call (q : PV) (l : List ByteArray) (hq : Sl q (l.map encS)) (name : ByteArray) (hl : l.length ≤ maxLen) : pureCall hints L0 42 [q, .str name] = some (.bool (memS name l)) :=
  pure_of prim42 ((has_run q l hq name hl).mono fun r hr => by rw [hr]; rfl)

/-! branches -/
structure Br where
  name : ByteArray
  fr : ByteArray
  to : ByteArray
  x : Int
  tap : Int
  shift : Int
  limit : Int
  short : Int
  hold : Int
def encB (b : Br) : List PV := [.str b.name, .str b.fr, .str b.to, .int .i64 b.x, .int .i64 b.tap, .int .i64 b.shift, .int .i64 b.limit, .int .i64 b.short, .int .i64 b.hold]
def outB (n lo hi : Int) : Bool := decide (n < lo) || decide (hi < n)
def branchBad (b : Br) : Bool := outB b.x 1 10000 || outB b.tap 500 1500 || outB b.shift (-1000) 1000 || outB b.limit 0 100000 || outB b.short b.limit 100000 || outB b.hold 0 200000
def branchE (b : Br) : Int := if branchBad b = true then 4 else 0
theorem out_call' (n lo hi : Int) : pureCall hints L0 69 [.int .i64 n, .int .i64 lo, .int .i64 hi] = some (.bool (outB n lo hi)) := out_call n lo hi
theorem in_call' (n lo hi : Int) : pureCall hints L0 70 [.int .i64 n, .int .i64 lo, .int .i64 hi] = some (.bool (!outB n lo hi)) := in_call n lo hi
set_option maxHeartbeats 4000000 in
theorem branch_run (b : Br) : Holds (L0.rn 26 [.agg (encB b)] []) (fun r => r.1 = .int .i64 (branchE b)) := by
  refine rn_rule (fn := Try.f26) (code := bodyOf Try.f26) ok26 Try.func26 (by kernel_rfl) (Nat.le_of_ble_eq_true (by kernel_rfl)) ?_
  simp (decide := true) (implicitDefEqProofs := false) only [Am.findLoop, Am.loopOf, Am.bodyOf, Am.firstReg, Nat.beq, cond_true, cond_false, Am.splice, Am.walkW, Am.stdW, id, reduceCtorEq, Nat.reduceAdd, Nat.reduceSub, Nat.reduceMul, List.forall_mem_cons, List.forall_mem_nil, false_implies, implies_true, Try.f26, factsOf26, encB, out_call']
  repeat' ((first | (simp (implicitDefEqProofs := false) only [Am.runG_not, Am.condK_not, Am.pickV_not]; split) | (simp (implicitDefEqProofs := false) only [Am.runG_bool, Am.condK_bool, Am.pickV_bool]; split) | split) <;> (try simp (implicitDefEqProofs := false) only [Am.runGT_eq, Am.runGF_eq, Am.exH_eq]) <;> try simp (decide := true) (implicitDefEqProofs := false) only [Am.findLoop, Am.loopOf, Am.bodyOf, Am.firstReg, Nat.beq, cond_true, cond_false, Am.splice, Am.walkW, Am.stdW, id, reduceCtorEq, Nat.reduceAdd, Nat.reduceSub, Nat.reduceMul, List.forall_mem_cons, List.forall_mem_nil, false_implies, implies_true, Try.f26, factsOf26, encB, out_call', *])
  all_goals simp_all [branchE, branchBad]
theorem branch_call (b : Br) : pureCall hints L0 26 [.agg (encB b)] = some (.int .i64 (branchE b)) :=
  pure_of prim26 ((branch_run b).mono fun r hr => by rw [hr]; rfl)
set_option maxHeartbeats 4000000 in
theorem branchError_run (b : Br) : Holds (L0.rn 27 [.agg (encB b)] []) (fun r => r.1 = .int .i64 (branchE b)) := by
  refine rn_rule (fn := Try.f27) (code := bodyOf Try.f27) ok27 Try.func27 (by kernel_rfl) (Nat.le_of_ble_eq_true (by kernel_rfl)) ?_
  simp (decide := true) (implicitDefEqProofs := false) only [Am.findLoop, Am.loopOf, Am.bodyOf, Am.firstReg, Nat.beq, cond_true, cond_false, Am.splice, Am.walkW, Am.stdW, id, reduceCtorEq, Nat.reduceAdd, Nat.reduceSub, Nat.reduceMul, List.forall_mem_cons, List.forall_mem_nil, false_implies, implies_true, Try.f27, factsOf27, encB, in_call']
  repeat' ((first | (simp (implicitDefEqProofs := false) only [Am.runG_not, Am.condK_not, Am.pickV_not]; split) | (simp (implicitDefEqProofs := false) only [Am.runG_bool, Am.condK_bool, Am.pickV_bool]; split) | split) <;> (try simp (implicitDefEqProofs := false) only [Am.runGT_eq, Am.runGF_eq, Am.exH_eq]) <;> try simp (decide := true) (implicitDefEqProofs := false) only [Am.findLoop, Am.loopOf, Am.bodyOf, Am.firstReg, Nat.beq, cond_true, cond_false, Am.splice, Am.walkW, Am.stdW, id, reduceCtorEq, Nat.reduceAdd, Nat.reduceSub, Nat.reduceMul, List.forall_mem_cons, List.forall_mem_nil, false_implies, implies_true, Try.f27, factsOf27, encB, in_call', *])
  all_goals simp_all [branchE, branchBad]
theorem branchError_call (b : Br) : pureCall hints L0 27 [.agg (encB b)] = some (.int .i64 (branchE b)) :=
  pure_of prim27 ((branchError_run b).mono fun r hr => by rw [hr]; rfl)
end Go.Proofs.Ytcclbkkgpcpikaa

import Derived.Test.YtcclbkkgpcpikaaFn
import Derived.Test.YtcclbkkgpcpikaaAmC
set_option linter.unusedSimpArgs false
set_option linter.unusedVariables false
namespace Go.Proofs.Ytcclbkkgpcpikaa
open Go.Am
set_option maxRecDepth 100000
noncomputable abbrev L0 := lim Try.prog hints

theorem out_run (n lo hi : Int) : Holds (L0.rn 69 [.int .i64 n, .int .i64 lo, .int .i64 hi] []) (fun r => r.1 = .bool (decide (n < lo) || decide (hi < n))) := by
  refine rn_rule (fn := Try.f69) (code := bodyOf Try.f69) ok69 Try.func69 (by kernel_rfl) (Nat.le_of_ble_eq_true (by kernel_rfl)) ?_
  simp (decide := true) (implicitDefEqProofs := false) only [Am.findLoop, Am.loopOf, Am.bodyOf, Am.firstReg, Nat.beq, cond_true, cond_false, Am.splice, Am.walkW, Am.stdW, id, reduceCtorEq, Nat.reduceAdd, Nat.reduceSub, Nat.reduceMul, List.forall_mem_cons, List.forall_mem_nil, false_implies, implies_true, Try.f69, factsOf69]
  repeat' ((first | (simp (implicitDefEqProofs := false) only [Am.runG_not, Am.condK_not, Am.pickV_not]; split) | (simp (implicitDefEqProofs := false) only [Am.runG_bool, Am.condK_bool, Am.pickV_bool]; split) | split) <;> (try simp (implicitDefEqProofs := false) only [Am.runGT_eq, Am.runGF_eq, Am.exH_eq]) <;> try simp (decide := true) (implicitDefEqProofs := false) only [Am.findLoop, Am.loopOf, Am.bodyOf, Am.firstReg, Nat.beq, cond_true, cond_false, Am.splice, Am.walkW, Am.stdW, id, reduceCtorEq, Nat.reduceAdd, Nat.reduceSub, Nat.reduceMul, List.forall_mem_cons, List.forall_mem_nil, false_implies, implies_true, Try.f69, factsOf69, *])
  all_goals simp_all
theorem out_call (n lo hi : Int) : pureCall hints L0 69 [.int .i64 n, .int .i64 lo, .int .i64 hi] = some (.bool (decide (n < lo) || decide (hi < n))) :=
  pure_of prim69 ((out_run n lo hi).mono fun r hr => by rw [hr]; rfl)
theorem in_run (n lo hi : Int) : Holds (L0.rn 70 [.int .i64 n, .int .i64 lo, .int .i64 hi] []) (fun r => r.1 = .bool (!(decide (n < lo) || decide (hi < n)))) := by
  refine rn_rule (fn := Try.f70) (code := bodyOf Try.f70) ok70 Try.func70 (by kernel_rfl) (Nat.le_of_ble_eq_true (by kernel_rfl)) ?_
  simp (decide := true) (implicitDefEqProofs := false) only [Am.findLoop, Am.loopOf, Am.bodyOf, Am.firstReg, Nat.beq, cond_true, cond_false, Am.splice, Am.walkW, Am.stdW, id, reduceCtorEq, Nat.reduceAdd, Nat.reduceSub, Nat.reduceMul, List.forall_mem_cons, List.forall_mem_nil, false_implies, implies_true, Try.f70, factsOf70]
  repeat' ((first | (simp (implicitDefEqProofs := false) only [Am.runG_not, Am.condK_not, Am.pickV_not]; split) | (simp (implicitDefEqProofs := false) only [Am.runG_bool, Am.condK_bool, Am.pickV_bool]; split) | split) <;> (try simp (implicitDefEqProofs := false) only [Am.runGT_eq, Am.runGF_eq, Am.exH_eq]) <;> try simp (decide := true) (implicitDefEqProofs := false) only [Am.findLoop, Am.loopOf, Am.bodyOf, Am.firstReg, Nat.beq, cond_true, cond_false, Am.splice, Am.walkW, Am.stdW, id, reduceCtorEq, Nat.reduceAdd, Nat.reduceSub, Nat.reduceMul, List.forall_mem_cons, List.forall_mem_nil, false_implies, implies_true, Try.f70, factsOf70, *])
  all_goals simp_all
theorem in_call (n lo hi : Int) : pureCall hints L0 70 [.int .i64 n, .int .i64 lo, .int .i64 hi] = some (.bool (!(decide (n < lo) || decide (hi < n)))) :=
  pure_of prim70 ((in_run n lo hi).mono fun r hr => by rw [hr]; rfl)
theorem permitted_run (n : Int) : Holds (L0.rn 105 [.int .i64 n] []) (fun r => r.1 = .bool (!(decide (n < 0) || decide (100000 < n)))) := by
  refine rn_rule (fn := Try.f105) (code := bodyOf Try.f105) ok105 Try.func105 (by kernel_rfl) (Nat.le_of_ble_eq_true (by kernel_rfl)) ?_
  simp (decide := true) (implicitDefEqProofs := false) only [Am.findLoop, Am.loopOf, Am.bodyOf, Am.firstReg, Nat.beq, cond_true, cond_false, Am.splice, Am.walkW, Am.stdW, id, reduceCtorEq, Nat.reduceAdd, Nat.reduceSub, Nat.reduceMul, List.forall_mem_cons, List.forall_mem_nil, false_implies, implies_true, Try.f105, factsOf105, out_call]
theorem permitted_call (n : Int) : pureCall hints L0 105 [.int .i64 n] = some (.bool (!(decide (n < 0) || decide (100000 < n)))) :=
  pure_of prim105 ((permitted_run n).mono fun r hr => by rw [hr]; rfl)

/-! names -/
def upper (c : UInt8) : Bool := decide (65 ≤ c.toNat) && decide (c.toNat ≤ 90)
def digit (c : UInt8) : Bool := decide (48 ≤ c.toNat) && decide (c.toNat ≤ 57)
def goodAt (i : Nat) (c : UInt8) : Bool := upper c || (decide (0 < i) && digit c)
def goods : Nat → List UInt8 → Bool
  | _, [] => true
  | i, c :: r => goodAt i c && goods (i + 1) r
def nameB (s : ByteArray) : Bool := goods 0 s.data.toList && (decide (1 ≤ s.size) && decide (s.size ≤ 8))
theorem byteCells_get {s : ByteArray} {i : Nat} (h : i < s.data.toList.length) : (byteCells s)[i]? = some [.int .u8 (s.data.toList[i].toNat)] := by
  simp only [byteCells, List.getElem?_map, List.getElem?_eq_getElem h]; rfl
theorem byteCells_length (s : ByteArray) : (byteCells s).length = s.data.toList.length := by simp [byteCells]
noncomputable def canonName (s : ByteArray) (i : Nat) : St := ⟨[(0, .str s), (6, .lst (byteCells s)), (7, .int .i64 s.data.toList.length), (8, .int .i64 i)], []⟩
def postName (s : ByteArray) (i : Nat) (r : Ex × St) : Prop :=
  if goods i (s.data.toList.drop i) = true then r = (.exit 0, ⟨(9, .bool false) :: (canonName s s.data.toList.length).tm, []⟩) else r.1 = .ret ∧ Am.get r.2.tm 2 = some (.bool false)
theorem postName_bad {s : ByteArray} {i : Nat} (hi : i < s.data.toList.length) (hb : goodAt i s.data.toList[i] = false) {t : St} (hs : Am.get t.tm 2 = some (.bool false)) : postName s i (.ret, t) := by
  unfold postName
  rw [List.drop_eq_getElem_cons hi, goods, hb]
  exact ⟨rfl, hs⟩
theorem postName_next {s : ByteArray} {i : Nat} (hi : i < s.data.toList.length) (hb : goodAt i s.data.toList[i] = true) {r : Ex × St} (h : postName s (i + 1) r) : postName s i r := by
  unfold postName at h ⊢
  rw [List.drop_eq_getElem_cons hi, goods, hb]
  exact h
set_option maxHeartbeats 2000000 in
theorem name_loop (s : ByteArray) (hl : s.data.toList.length ≤ reachBytes) : ∀ (i : Nat) (t : St), i ≤ s.data.toList.length → maskK (hints.keep 24 (firstReg (loopOf Try.f24 2))) ⟨24, 0, 41⟩ t = some (canonName s i) →
    Holds (L0.ex ⟨24, 0, 41⟩ (.loop (loopOf Try.f24 2)) t) (postName s i) := by
  refine loop_rule (c := ⟨24, 0, 41⟩) (b := loopOf Try.f24 2) (canonName s) (fun i => i ≤ s.data.toList.length) (fun i => s.data.toList.length - i) (postName s) ?_
  intro i hi
  have hre : reachBytes ≤ 1000000000000000000 := by decide
  by_cases hlt : i < s.data.toList.length
  · have hget := byteCells_get hlt
    have hlt' : (i : Int) < s.data.toList.length := by omega
    have hlt2 : (i : Int) < (byteCells s).length := by rw [byteCells_length]; exact hlt'
    have hw : IntKind.i64.wrap ((i : Int) + 1) = ((i + 1 : Nat) : Int) := wrap64 (by omega) (by omega)
    generalize hc : s.data.toList[i] = c at hget
    have bad : ∀ {t : St}, goodAt i c = false → Am.get t.tm 2 = some (.bool false) → postName s i (.ret, t) := fun hb hs => postName_bad hlt (by rw [hc]; exact hb) hs
    have next : ∀ {r : Ex × St}, goodAt i c = true → postName s (i + 1) r → postName s i r := fun hb hr => postName_next hlt (by rw [hc]; exact hb) hr
    simp (decide := true) (implicitDefEqProofs := false) only [Am.findLoop, Am.loopOf, Am.bodyOf, Am.firstReg, Nat.beq, cond_true, cond_false, Am.splice, Am.walkW, Am.stdW, id, reduceCtorEq, Nat.reduceAdd, Nat.reduceSub, Nat.reduceMul, List.forall_mem_cons, List.forall_mem_nil, false_implies, implies_true, Try.f24, factsOf24, canonName, hget, hlt', hlt2, hw, keep24_2]
    repeat' ((first | (simp (implicitDefEqProofs := false) only [Am.runG_not, Am.condK_not, Am.pickV_not]; split) | (simp (implicitDefEqProofs := false) only [Am.runG_bool, Am.condK_bool, Am.pickV_bool]; split) | split) <;> (try simp (implicitDefEqProofs := false) only [Am.runGT_eq, Am.runGF_eq, Am.exH_eq]) <;> try simp (decide := true) (implicitDefEqProofs := false) only [Am.findLoop, Am.loopOf, Am.bodyOf, Am.firstReg, Nat.beq, cond_true, cond_false, Am.splice, Am.walkW, Am.stdW, id, reduceCtorEq, Nat.reduceAdd, Nat.reduceSub, Nat.reduceMul, List.forall_mem_cons, List.forall_mem_nil, false_implies, implies_true, Try.f24, factsOf24, canonName, hget, hlt', hlt2, hw, keep24_2, *])
    all_goals first
      | (refine bad ?_ rfl
         clear bad next hget
         simp only [decide_eq_true_eq, decide_eq_false_iff_not] at *
         simp only [goodAt, upper, digit, Bool.or_eq_false_iff, Bool.and_eq_false_iff, decide_eq_false_iff_not]
         omega)
      | (refine ⟨i + 1, rfl, hlt, by omega, fun r hr => next ?_ hr⟩
         clear bad next hget
         simp only [decide_eq_true_eq, decide_eq_false_iff_not] at *
         simp only [goodAt, upper, digit, Bool.or_eq_true, Bool.and_eq_true, decide_eq_true_eq]
         omega)
  · have hlt' : decide ((i : Int) < s.data.toList.length) = false := decide_eq_false (by omega)
    simp (decide := true) (implicitDefEqProofs := false) only [Am.findLoop, Am.loopOf, Am.bodyOf, Am.firstReg, Nat.beq, cond_true, cond_false, Am.splice, Am.walkW, Am.stdW, id, reduceCtorEq, Nat.reduceAdd, Nat.reduceSub, Nat.reduceMul, List.forall_mem_cons, List.forall_mem_nil, false_implies, implies_true, Try.f24, factsOf24, canonName, hlt']
    repeat' ((first | (simp (implicitDefEqProofs := false) only [Am.runG_not, Am.condK_not, Am.pickV_not]; split) | (simp (implicitDefEqProofs := false) only [Am.runG_bool, Am.condK_bool, Am.pickV_bool]; split) | split) <;> (try simp (implicitDefEqProofs := false) only [Am.runGT_eq, Am.runGF_eq, Am.exH_eq]) <;> try simp (decide := true) (implicitDefEqProofs := false) only [Am.findLoop, Am.loopOf, Am.bodyOf, Am.firstReg, Nat.beq, cond_true, cond_false, Am.splice, Am.walkW, Am.stdW, id, reduceCtorEq, Nat.reduceAdd, Nat.reduceSub, Nat.reduceMul, List.forall_mem_cons, List.forall_mem_nil, false_implies, implies_true, Try.f24, factsOf24, canonName, hlt', *])
    have e : i = s.data.toList.length := by omega
    simp only [postName, e, List.drop_length, goods, canonName, if_true]
theorem name_run (s : ByteArray) (hl : s.size ≤ reachBytes) : Holds (L0.rn 24 [.str s] []) (fun r => r.1 = .bool (nameB s)) := by
  have hsz : s.data.toList.length = s.size := by simp
  refine rn_rule (fn := Try.f24) (code := bodyOf Try.f24) ok24 Try.func24 (by kernel_rfl) (Nat.le_of_ble_eq_true (by kernel_rfl)) ?_
  have hlen := fun H => len_str (P := Try.prog) (H := H) isStrT9 s
  have hlen2 := fun H => len_lst (P := Try.prog) (H := H) slZ116 (byteCells s)
  rw [byteCells_length] at hlen2
  simp (decide := true) (implicitDefEqProofs := false) only [Am.findLoop, Am.loopOf, Am.bodyOf, Am.firstReg, Nat.beq, cond_true, cond_false, Am.splice, Am.walkW, Am.stdW, id, reduceCtorEq, Nat.reduceAdd, Nat.reduceSub, Nat.reduceMul, List.forall_mem_cons, List.forall_mem_nil, false_implies, implies_true, Try.f24, factsOf24, hlen, hlen2]
  repeat' ((first | (simp (implicitDefEqProofs := false) only [Am.runG_not, Am.condK_not, Am.pickV_not]; split) | (simp (implicitDefEqProofs := false) only [Am.runG_bool, Am.condK_bool, Am.pickV_bool]; split) | split) <;> (try simp (implicitDefEqProofs := false) only [Am.runGT_eq, Am.runGF_eq, Am.exH_eq]) <;> try simp (decide := true) (implicitDefEqProofs := false) only [Am.findLoop, Am.loopOf, Am.bodyOf, Am.firstReg, Nat.beq, cond_true, cond_false, Am.splice, Am.walkW, Am.stdW, id, reduceCtorEq, Nat.reduceAdd, Nat.reduceSub, Nat.reduceMul, List.forall_mem_cons, List.forall_mem_nil, false_implies, implies_true, Try.f24, factsOf24, hlen, hlen2, *])
  rw [holds_bind, holds_bind]
  refine (name_loop s (by omega) 0 _ (by omega) ?_).mono ?_
  · show maskK (hints.keep 24 2) _ _ = _
    simp (decide := true) (implicitDefEqProofs := false) only [Am.findLoop, Am.loopOf, Am.bodyOf, Am.firstReg, Nat.beq, cond_true, cond_false, Am.splice, Am.walkW, Am.stdW, id, reduceCtorEq, Nat.reduceAdd, Nat.reduceSub, Nat.reduceMul, List.forall_mem_cons, List.forall_mem_nil, false_implies, implies_true, Try.f24, factsOf24, keep24_2, canonName]
    rfl
  · rintro ⟨e, s'⟩ hp
    unfold postName at hp
    rw [List.drop_zero] at hp
    by_cases hall : goods 0 s.data.toList = true
    · rw [if_pos hall] at hp
      cases hp
      simp (decide := true) (implicitDefEqProofs := false) only [Am.findLoop, Am.loopOf, Am.bodyOf, Am.firstReg, Nat.beq, cond_true, cond_false, Am.splice, Am.walkW, Am.stdW, id, reduceCtorEq, Nat.reduceAdd, Nat.reduceSub, Nat.reduceMul, List.forall_mem_cons, List.forall_mem_nil, false_implies, implies_true, Try.f24, factsOf24, hlen, canonName]
      repeat' ((first | (simp (implicitDefEqProofs := false) only [Am.runG_not, Am.condK_not, Am.pickV_not]; split) | (simp (implicitDefEqProofs := false) only [Am.runG_bool, Am.condK_bool, Am.pickV_bool]; split) | split) <;> (try simp (implicitDefEqProofs := false) only [Am.runGT_eq, Am.runGF_eq, Am.exH_eq]) <;> try simp (decide := true) (implicitDefEqProofs := false) only [Am.findLoop, Am.loopOf, Am.bodyOf, Am.firstReg, Nat.beq, cond_true, cond_false, Am.splice, Am.walkW, Am.stdW, id, reduceCtorEq, Nat.reduceAdd, Nat.reduceSub, Nat.reduceMul, List.forall_mem_cons, List.forall_mem_nil, false_implies, implies_true, Try.f24, factsOf24, hlen, canonName, *])
      all_goals (simp only [nameB, hall, Bool.true_and]; simp_all; try (first | omega | (rw [Bool.eq_iff_iff]; simp only [Bool.and_eq_true, decide_eq_true_eq]; omega)))
    · rw [if_neg hall] at hp
      obtain ⟨h5, h6⟩ := hp
      cases h5
      simp (decide := true) (implicitDefEqProofs := false) only [Am.findLoop, Am.loopOf, Am.bodyOf, Am.firstReg, Nat.beq, cond_true, cond_false, Am.splice, Am.walkW, Am.stdW, id, reduceCtorEq, Nat.reduceAdd, Nat.reduceSub, Nat.reduceMul, List.forall_mem_cons, List.forall_mem_nil, false_implies, implies_true, Try.f24, factsOf24, h6]
      simp [nameB, hall]
/-! the reference's names -/
def isGoods (l : List UInt8) : Bool := l.all fun c => upper c || digit c
def headUp : List UInt8 → Bool
  | [] => false
  | c :: _ => upper c
theorem goods_ge (i : Nat) (hi : 0 < i) : ∀ l : List UInt8, goods i l = isGoods l
  | [] => rfl
  | c :: r => by
    simp only [goods, goodAt, isGoods, List.all_cons, hi, decide_true, Bool.true_and]
    rw [goods_ge (i + 1) (by omega) r]; rfl
theorem nameB_eq (s : ByteArray) : nameB s = (headUp s.data.toList && isGoods s.data.toList && decide (s.size ≤ 8)) := by
  unfold nameB
  have hsz : s.data.toList.length = s.size := by simp
  generalize s.data.toList = l at hsz
  cases l with
  | nil =>
    simp only [List.length_nil] at hsz
    simp [← hsz, headUp]
  | cons c r =>
    simp only [List.length_cons] at hsz
    have h1 : decide (1 ≤ s.size) = true := decide_eq_true (by omega)
    simp only [goods, goodAt, goods_ge 1 (by omega), headUp, isGoods, List.all_cons, h1, Bool.true_and, Nat.lt_irrefl, decide_false, Bool.false_and, Bool.or_false]
    cases upper c <;> simp
noncomputable def canonIs (s : ByteArray) (i : Nat) : St := ⟨[(0, .str s), (24, .int .i64 s.size), (25, .int .i64 i)], []⟩
def postIs (s : ByteArray) (i : Nat) (r : Ex × St) : Prop :=
  if isGoods (s.data.toList.drop i) = true then r.1 = .exit 0 else r.1 = .ret ∧ Am.get r.2.tm 2 = some (.bool false)
theorem postIs_bad {s : ByteArray} {i : Nat} (hi : i < s.data.toList.length) (hb : (upper s.data.toList[i] || digit s.data.toList[i]) = false) {t : St} (hs : Am.get t.tm 2 = some (.bool false)) : postIs s i (.ret, t) := by
  unfold postIs isGoods
  rw [List.drop_eq_getElem_cons hi, List.all_cons, hb]
  exact ⟨rfl, hs⟩
theorem postIs_next {s : ByteArray} {i : Nat} (hi : i < s.data.toList.length) (hb : (upper s.data.toList[i] || digit s.data.toList[i]) = true) {r : Ex × St} (h : postIs s (i + 1) r) : postIs s i r := by
  unfold postIs isGoods at h ⊢
  rw [List.drop_eq_getElem_cons hi, List.all_cons, hb]
  exact h
theorem strAt_nat {s : ByteArray} {i : Nat} (h : i < s.data.toList.length) : strAt s (i : Int) = some (.int .u8 (s.data.toList[i].toNat)) := by
  simp only [strAt, Int.natCast_nonneg, if_true, Int.toNat_natCast, List.getElem?_eq_getElem h, Option.map_some]
set_option maxHeartbeats 2000000 in
theorem isName_loop (s : ByteArray) (hl : s.size ≤ reachBytes) : ∀ (i : Nat) (t : St), i ≤ s.size → maskK (hints.keep 25 (firstReg (loopOf Try.f25 4))) ⟨25, 0, 46⟩ t = some (canonIs s i) →
    Holds (L0.ex ⟨25, 0, 46⟩ (.loop (loopOf Try.f25 4)) t) (postIs s i) := by
  refine loop_rule (c := ⟨25, 0, 46⟩) (b := loopOf Try.f25 4) (canonIs s) (fun i => i ≤ s.size) (fun i => s.size - i) (postIs s) ?_
  intro i hi
  have hre : reachBytes ≤ 1000000000000000000 := by decide
  have hsz : s.data.toList.length = s.size := by simp
  by_cases hlt : i < s.size
  · have hlt1 : i < s.data.toList.length := by omega
    have hget := strAt_nat hlt1
    have hlt' : decide ((i : Int) < s.size) = true := decide_eq_true (by omega)
    have hw : IntKind.i64.wrap ((i : Int) + 1) = ((i + 1 : Nat) : Int) := wrap64 (by omega) (by omega)
    generalize hc : s.data.toList[i] = c at hget
    have bad : ∀ {t : St}, (upper c || digit c) = false → Am.get t.tm 2 = some (.bool false) → postIs s i (.ret, t) := fun hb hs => postIs_bad hlt1 (by rw [hc]; exact hb) hs
    have next : ∀ {r : Ex × St}, (upper c || digit c) = true → postIs s (i + 1) r → postIs s i r := fun hb hr => postIs_next hlt1 (by rw [hc]; exact hb) hr
    simp (decide := true) (implicitDefEqProofs := false) only [Am.findLoop, Am.loopOf, Am.bodyOf, Am.firstReg, Nat.beq, cond_true, cond_false, Am.splice, Am.walkW, Am.stdW, id, reduceCtorEq, Nat.reduceAdd, Nat.reduceSub, Nat.reduceMul, List.forall_mem_cons, List.forall_mem_nil, false_implies, implies_true, Try.f25, factsOf25, canonIs, hget, hlt', hw, keep25_4]
    repeat' ((first | (simp (implicitDefEqProofs := false) only [Am.runG_not, Am.condK_not, Am.pickV_not]; split) | (simp (implicitDefEqProofs := false) only [Am.runG_bool, Am.condK_bool, Am.pickV_bool]; split) | split) <;> (try simp (implicitDefEqProofs := false) only [Am.runGT_eq, Am.runGF_eq, Am.exH_eq]) <;> try simp (decide := true) (implicitDefEqProofs := false) only [Am.findLoop, Am.loopOf, Am.bodyOf, Am.firstReg, Nat.beq, cond_true, cond_false, Am.splice, Am.walkW, Am.stdW, id, reduceCtorEq, Nat.reduceAdd, Nat.reduceSub, Nat.reduceMul, List.forall_mem_cons, List.forall_mem_nil, false_implies, implies_true, Try.f25, factsOf25, canonIs, hget, hlt', hw, keep25_4, *])
    all_goals first
      | (refine bad ?_ rfl
         clear bad next hget
         simp only [decide_eq_true_eq, decide_eq_false_iff_not] at *
         simp only [upper, digit, Bool.or_eq_false_iff, Bool.and_eq_false_iff, decide_eq_false_iff_not]
         omega)
      | (refine ⟨i + 1, rfl, hlt, by omega, fun r hr => next ?_ hr⟩
         clear bad next hget
         simp only [decide_eq_true_eq, decide_eq_false_iff_not] at *
         simp only [upper, digit, Bool.or_eq_true, Bool.and_eq_true, decide_eq_true_eq]
         omega)
  · have hlt' : decide ((i : Int) < s.size) = false := decide_eq_false (by omega)
    simp (decide := true) (implicitDefEqProofs := false) only [Am.findLoop, Am.loopOf, Am.bodyOf, Am.firstReg, Nat.beq, cond_true, cond_false, Am.splice, Am.walkW, Am.stdW, id, reduceCtorEq, Nat.reduceAdd, Nat.reduceSub, Nat.reduceMul, List.forall_mem_cons, List.forall_mem_nil, false_implies, implies_true, Try.f25, factsOf25, canonIs, hlt']
    repeat' ((first | (simp (implicitDefEqProofs := false) only [Am.runG_not, Am.condK_not, Am.pickV_not]; split) | (simp (implicitDefEqProofs := false) only [Am.runG_bool, Am.condK_bool, Am.pickV_bool]; split) | split) <;> (try simp (implicitDefEqProofs := false) only [Am.runGT_eq, Am.runGF_eq, Am.exH_eq]) <;> try simp (decide := true) (implicitDefEqProofs := false) only [Am.findLoop, Am.loopOf, Am.bodyOf, Am.firstReg, Nat.beq, cond_true, cond_false, Am.splice, Am.walkW, Am.stdW, id, reduceCtorEq, Nat.reduceAdd, Nat.reduceSub, Nat.reduceMul, List.forall_mem_cons, List.forall_mem_nil, false_implies, implies_true, Try.f25, factsOf25, canonIs, hlt', *])
    simp [postIs, isGoods, List.drop_eq_nil_of_le (by omega : s.data.toList.length ≤ i)]
set_option maxHeartbeats 2000000 in
theorem isName_run (s : ByteArray) (hl : s.size ≤ reachBytes) : Holds (L0.rn 25 [.str s] []) (fun r => r.1 = .bool (nameB s)) := by
  have hsz : s.data.toList.length = s.size := by simp
  have hlen := fun H => len_str (P := Try.prog) (H := H) isStrT9 s
  rw [nameB_eq]
  have fin : ∀ (t : St), t = ⟨t.tm, t.hp⟩ := fun t => rfl
  by_cases h0 : s.size = 0
  · refine rn_rule (fn := Try.f25) (code := bodyOf Try.f25) ok25 Try.func25 (by kernel_rfl) (Nat.le_of_ble_eq_true (by kernel_rfl)) ?_
    have h0' : decide ((s.size : Int) = 0) = true := decide_eq_true (by omega)
    have hnil : s.data.toList = [] := List.length_eq_zero_iff.1 (by omega)
    simp (decide := true) (implicitDefEqProofs := false) only [Am.findLoop, Am.loopOf, Am.bodyOf, Am.firstReg, Nat.beq, cond_true, cond_false, Am.splice, Am.walkW, Am.stdW, id, reduceCtorEq, Nat.reduceAdd, Nat.reduceSub, Nat.reduceMul, List.forall_mem_cons, List.forall_mem_nil, false_implies, implies_true, Try.f25, factsOf25, hlen, h0']
    repeat' ((first | (simp (implicitDefEqProofs := false) only [Am.runG_not, Am.condK_not, Am.pickV_not]; split) | (simp (implicitDefEqProofs := false) only [Am.runG_bool, Am.condK_bool, Am.pickV_bool]; split) | split) <;> (try simp (implicitDefEqProofs := false) only [Am.runGT_eq, Am.runGF_eq, Am.exH_eq]) <;> try simp (decide := true) (implicitDefEqProofs := false) only [Am.findLoop, Am.loopOf, Am.bodyOf, Am.firstReg, Nat.beq, cond_true, cond_false, Am.splice, Am.walkW, Am.stdW, id, reduceCtorEq, Nat.reduceAdd, Nat.reduceSub, Nat.reduceMul, List.forall_mem_cons, List.forall_mem_nil, false_implies, implies_true, Try.f25, factsOf25, hlen, h0', *])
    simp [hnil, headUp]
  have h0' : decide ((s.size : Int) = 0) = false := decide_eq_false (by omega)
  obtain ⟨c, r, hcr⟩ : ∃ c r, s.data.toList = c :: r := by
    cases h : s.data.toList with
    | nil => rw [h] at hsz; simp at hsz; omega
    | cons c r => exact ⟨c, r, rfl⟩
  have hget : strAt s 0 = some (.int .u8 c.toNat) := by
    have := strAt_nat (s := s) (i := 0) (by omega)
    simp only [hcr, List.getElem_cons_zero] at this
    exact this
  by_cases hgood : 8 < s.size ∨ upper c = false
  · refine rn_rule (fn := Try.f25) (code := bodyOf Try.f25) ok25 Try.func25 (by kernel_rfl) (Nat.le_of_ble_eq_true (by kernel_rfl)) ?_
    simp (decide := true) (implicitDefEqProofs := false) only [Am.findLoop, Am.loopOf, Am.bodyOf, Am.firstReg, Nat.beq, cond_true, cond_false, Am.splice, Am.walkW, Am.stdW, id, reduceCtorEq, Nat.reduceAdd, Nat.reduceSub, Nat.reduceMul, List.forall_mem_cons, List.forall_mem_nil, false_implies, implies_true, Try.f25, factsOf25, hlen, h0', hget]
    repeat' ((first | (simp (implicitDefEqProofs := false) only [Am.runG_not, Am.condK_not, Am.pickV_not]; split) | (simp (implicitDefEqProofs := false) only [Am.runG_bool, Am.condK_bool, Am.pickV_bool]; split) | split) <;> (try simp (implicitDefEqProofs := false) only [Am.runGT_eq, Am.runGF_eq, Am.exH_eq]) <;> try simp (decide := true) (implicitDefEqProofs := false) only [Am.findLoop, Am.loopOf, Am.bodyOf, Am.firstReg, Nat.beq, cond_true, cond_false, Am.splice, Am.walkW, Am.stdW, id, reduceCtorEq, Nat.reduceAdd, Nat.reduceSub, Nat.reduceMul, List.forall_mem_cons, List.forall_mem_nil, false_implies, implies_true, Try.f25, factsOf25, hlen, h0', hget, *])
    all_goals (simp only [decide_eq_true_eq, decide_eq_false_iff_not] at *)
    · have : decide (s.size ≤ 8) = false := decide_eq_false (by omega)
      rw [this, Bool.and_false]
    · have : upper c = false := by simp only [upper, Bool.and_eq_false_iff, decide_eq_false_iff_not]; omega
      rw [headUp, this]; rfl
    · have : upper c = false := by simp only [upper, Bool.and_eq_false_iff, decide_eq_false_iff_not]; omega
      rw [headUp, this]; rfl
    · exfalso
      rcases hgood with h | h
      · omega
      · simp only [upper, Bool.and_eq_false_iff, decide_eq_false_iff_not] at h; omega
  · have hg1 : s.size ≤ 8 := by omega
    have hg2 : upper c = true := by cases h : upper c <;> simp_all
    have hg3 := hg2
    simp only [upper, Bool.and_eq_true, decide_eq_true_eq] at hg3
    have e1 : decide ((8 : Int) < s.size) = false := decide_eq_false (by omega)
    have e2 : decide ((c.toNat : Int) < 65) = false := decide_eq_false (by omega)
    have e3 : decide ((90 : Int) < c.toNat) = false := decide_eq_false (by omega)
    refine rn_rule (fn := Try.f25) (code := bodyOf Try.f25) ok25 Try.func25 (by kernel_rfl) (Nat.le_of_ble_eq_true (by kernel_rfl)) ?_
    simp (decide := true) (implicitDefEqProofs := false) only [Am.findLoop, Am.loopOf, Am.bodyOf, Am.firstReg, Nat.beq, cond_true, cond_false, Am.splice, Am.walkW, Am.stdW, id, reduceCtorEq, Nat.reduceAdd, Nat.reduceSub, Nat.reduceMul, List.forall_mem_cons, List.forall_mem_nil, false_implies, implies_true, Try.f25, factsOf25, hlen, h0', hget, e1, e2, e3]
    rw [holds_bind, holds_bind]
    refine (isName_loop s hl 0 _ (by omega) ?_).mono ?_
    · show maskK (hints.keep 25 4) _ _ = _
      simp (decide := true) (implicitDefEqProofs := false) only [Am.findLoop, Am.loopOf, Am.bodyOf, Am.firstReg, Nat.beq, cond_true, cond_false, Am.splice, Am.walkW, Am.stdW, id, reduceCtorEq, Nat.reduceAdd, Nat.reduceSub, Nat.reduceMul, List.forall_mem_cons, List.forall_mem_nil, false_implies, implies_true, Try.f25, factsOf25, keep25_4, canonIs]
      rfl
    · rintro ⟨e, s'⟩ hp
      unfold postIs at hp
      rw [List.drop_zero] at hp
      by_cases hall : isGoods s.data.toList = true
      · rw [if_pos hall] at hp
        cases hp
        simp (decide := true) (implicitDefEqProofs := false) only [Am.findLoop, Am.loopOf, Am.bodyOf, Am.firstReg, Nat.beq, cond_true, cond_false, Am.splice, Am.walkW, Am.stdW, id, reduceCtorEq, Nat.reduceAdd, Nat.reduceSub, Nat.reduceMul, List.forall_mem_cons, List.forall_mem_nil, false_implies, implies_true, Try.f25, factsOf25]
        simp [hall, hcr, headUp, hg2, hg1]
        simpa [hcr] using hall
      · rw [if_neg hall] at hp
        obtain ⟨h5, h6⟩ := hp
        cases h5
        simp (decide := true) (implicitDefEqProofs := false) only [Am.findLoop, Am.loopOf, Am.bodyOf, Am.firstReg, Nat.beq, cond_true, cond_false, Am.splice, Am.walkW, Am.stdW, id, reduceCtorEq, Nat.reduceAdd, Nat.reduceSub, Nat.reduceMul, List.forall_mem_cons, List.forall_mem_nil, false_implies, implies_true, Try.f25, factsOf25, h6]
        simp [hall]
theorem isName_call (s : ByteArray) (hl : s.size ≤ reachBytes) : pureCall hints L0 25 [.str s] = some (.bool (nameB s)) :=
  pure_of prim25 ((isName_run s hl).mono fun r hr => by rw [hr]; rfl)
theorem name_call (s : ByteArray) (hl : s.size ≤ reachBytes) : pureCall hints L0 24 [.str s] = some (.bool (nameB s)) :=
  pure_of prim24 ((name_run s hl).mono fun r hr => by rw [hr]; rfl)
end Go.Proofs.Ytcclbkkgpcpikaa

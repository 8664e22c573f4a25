import Derived.Test.YtcclbkkgpcpikaaH3
set_option linter.unusedSimpArgs false
set_option linter.unusedVariables false
namespace Go.Proofs.Ytcclbkkgpcpikaa
open Go.Am
set_option maxRecDepth 100000
/-! all numbers below n -/
def allRow (n i : Nat) : List Nat := (List.range n).map fun j => if j < i then j else 0
theorem allRow_zero (n : Nat) : allRow n 0 = List.replicate n 0 := by
  unfold allRow
  rw [List.map_congr_left (g := fun _ => 0) (fun j _ => by simp)]
  simp [List.map_const']
theorem allRow_set {n i : Nat} (hi : i < n) : (allRow n i).set i i = allRow n (i + 1) := by
  apply List.ext_getElem?
  intro j
  rw [List.getElem?_set]
  unfold allRow
  simp only [List.length_map, List.length_range, List.getElem?_map]
  by_cases h : i = j
  · subst h
    rw [if_pos rfl, if_pos hi, List.getElem?_range hi]; simp
  · rw [if_neg h]
    by_cases hj : j < n
    · rw [List.getElem?_range hj]
      simp only [Option.map_some, Option.some.injEq]
      by_cases h2 : j < i
      · rw [if_pos h2, if_pos (by omega)]
      · rw [if_neg h2, if_neg (by omega)]
    · rw [List.getElem?_eq_none (by simp; omega)]; rfl
theorem allRow_full (n : Nat) : allRow n n = List.range n := by
  unfold allRow
  conv => rhs; rw [← List.map_id (List.range n)]
  exact List.map_congr_left fun j hj => by rw [if_pos (by simpa using hj)]; rfl
theorem allRow_len (n i : Nat) : (allRow n i).length = n := by simp [allRow]
theorem setN (l : List Nat) (i x : Nat) : (l.map encN).set i [.int .i64 x] = (l.set i x).map encN := by rw [List.map_set]; rfl
noncomputable def canonAll (n i : Nat) : St := ⟨[(3, .ref 0 0 n n), (9, .int .i64 n), (10, .int .i64 i)], [.row ((allRow n i).map encN) 1 true]⟩
def postAll (n : Nat) (r : Ex × St) : Prop := r.1 = .exit 0 ∧ maskK (hints.keepB 57 0) ⟨57, 0, 19⟩ r.2 = some ⟨[(3, .ref 0 0 n n)], [.row ((List.range n).map encN) 1 true]⟩
set_option maxHeartbeats 4000000 in
theorem all_loop (n : Nat) (hn : n ≤ 64) : ∀ (i : Nat) (t : St), i ≤ n →
    maskK (hints.keep 57 (firstReg (loopOf Try.f57 3))) ⟨57, 0, 19⟩ t = some (canonAll n i) →
    Holds (L1.ex ⟨57, 0, 19⟩ (.loop (loopOf Try.f57 3)) t) (postAll n) := by
  refine loop_rule (σ := Nat) (c := ⟨57, 0, 19⟩) (b := loopOf Try.f57 3) (canonAll n) (fun i => i ≤ n) (fun i => n - i) (fun _ => postAll n) ?_
  intro i hi
  have f1 := flatN (allRow n i) 1 true
  by_cases hlt : i < n
  · have hlt' : decide ((i : Int) < (n : Int)) = true := decide_eq_true (by omega)
    have hlt2 : (i : Int) < (n : Int) := by omega
    have hw : IntKind.i64.wrap ((i : Int) + 1) = ((i + 1 : Nat) : Int) := wrap64 (by omega) (by omega)
    have hg := getN (l := allRow n i) (i := i) (by rw [allRow_len]; exact hlt)
    have f2 := flatN (allRow n (i + 1)) 1 true
    have hs := allRow_set hlt
    simp (decide := true) (implicitDefEqProofs := false) only [Am.findLoop, Am.loopOf, Am.bodyOf, Am.firstReg, Nat.beq, cond_true, cond_false, Am.splice, Am.walkW, Am.stdW, id, reduceCtorEq, Nat.reduceAdd, Nat.reduceSub, Nat.reduceMul, List.forall_mem_cons, List.forall_mem_nil, false_implies, implies_true, Try.f57, factsOf57, canonAll, hlt', hlt2, hw, hg, setN, hs, f2, keep57_3, Am.compactK, Am.idsT, Am.closeStep, Am.keepW, Am.kstdW]
    exact ⟨i + 1, rfl, hlt, by omega, fun r hr => hr⟩
  · have hlt' : decide ((i : Int) < (n : Int)) = false := decide_eq_false (by omega)
    have e : i = n := by omega
    subst e
    rw [allRow_full] at f1
    simp (decide := true) (implicitDefEqProofs := false) only [Am.findLoop, Am.loopOf, Am.bodyOf, Am.firstReg, Nat.beq, cond_true, cond_false, Am.splice, Am.walkW, Am.stdW, id, reduceCtorEq, Nat.reduceAdd, Nat.reduceSub, Nat.reduceMul, List.forall_mem_cons, List.forall_mem_nil, false_implies, implies_true, Try.f57, factsOf57, canonAll, hlt']
    refine ⟨rfl, ?_⟩
    simp (decide := true) (implicitDefEqProofs := false) only [Am.findLoop, Am.loopOf, Am.bodyOf, Am.firstReg, Nat.beq, cond_true, cond_false, Am.splice, Am.walkW, Am.stdW, id, reduceCtorEq, Nat.reduceAdd, Nat.reduceSub, Nat.reduceMul, List.forall_mem_cons, List.forall_mem_nil, false_implies, implies_true, Try.f57, factsOf57, allRow_full, f1, Am.compactK, Am.idsT, Am.closeStep, Am.keepW, Am.kstdW]
set_option maxHeartbeats 4000000 in
theorem all_call (q : PV) (l : List (Nat × Nat)) (hq : Sl q (l.map enc2N)) (hl : l.length ≤ 64) : pureCall hints L1 57 [q] = some (.lst ((List.range l.length).map encN)) := by
  refine pure_of prim57 (Holds.mono (Q := fun r => r = (.ref 0 0 l.length l.length, [.row ((List.range l.length).map encN) 1 true])) ?_ fun r hr => by rw [hr]; exact exp_row rfl (by simp) (plainN _))
  have hlen := fun H => len_sl (P := Try.prog) (H := H) hq slZ22
  rw [List.length_map] at hlen
  have hlr := fun H id i n m => len_ref (P := Try.prog) (H := H) slZ24 id i n m
  have hby : 8 * l.length ≤ 281474976710656 := by omega
  have hcap : l.length < 9223372036854775808 := by omega
  have hrep : List.replicate l.length [PV.int .i64 0] = (allRow l.length 0).map encN := by rw [allRow_zero, List.map_replicate]; rfl
  have f1 := flatN (allRow l.length 0) 1 true
  refine rn_rule (fn := Try.f57) (code := bodyOf Try.f57) ok57 Try.func57 (by kernel_rfl) (Nat.le_of_ble_eq_true (by kernel_rfl)) ?_
  simp (decide := true) (implicitDefEqProofs := false) only [Am.findLoop, Am.loopOf, Am.bodyOf, Am.firstReg, Nat.beq, cond_true, cond_false, Am.splice, Am.walkW, Am.stdW, id, reduceCtorEq, Nat.reduceAdd, Nat.reduceSub, Nat.reduceMul, List.forall_mem_cons, List.forall_mem_nil, false_implies, implies_true, Try.f57, factsOf57, hlen, hlr, makeSlice_nat, hby, hcap, hrep]
  simp only [holds_bind]
  refine (all_loop l.length hl 0 _ (by omega) ?_).mono ?_
  · show maskK (hints.keep 57 3) _ _ = _
    simp (decide := true) (implicitDefEqProofs := false) only [Am.findLoop, Am.loopOf, Am.bodyOf, Am.firstReg, Nat.beq, cond_true, cond_false, Am.splice, Am.walkW, Am.stdW, id, reduceCtorEq, Nat.reduceAdd, Nat.reduceSub, Nat.reduceMul, List.forall_mem_cons, List.forall_mem_nil, false_implies, implies_true, Try.f57, factsOf57, keep57_3, canonAll, f1, Am.compactK, Am.idsT, Am.closeStep, Am.keepW, Am.kstdW]
    rfl
  · rintro ⟨e, s'⟩ ⟨h5, h6⟩
    cases h5
    rw [keepB57_0] at h6
    simp (decide := true) (implicitDefEqProofs := false) only [Am.findLoop, Am.loopOf, Am.bodyOf, Am.firstReg, Nat.beq, cond_true, cond_false, Am.splice, Am.walkW, Am.stdW, id, reduceCtorEq, Nat.reduceAdd, Nat.reduceSub, Nat.reduceMul, List.forall_mem_cons, List.forall_mem_nil, false_implies, implies_true, Try.f57, factsOf57, h6]
/-! the search for the far ends -/
def drainP (l : List (Nat × Nat)) : Nat → List Int → List Nat → List Int
  | 0, out, _ => out
  | _ + 1, out, [] => out
  | f + 1, out, v :: todo => drainP l f (edgesF (-1) v ((out.getD v 0).toNat + 1) 0 l out todo).1 (edgesF (-1) v ((out.getD v 0).toNat + 1) 0 l out todo).2
noncomputable def canonP8 (n : Nat) (q pe : PV) (fr to at_ len k : Nat) (out : List Int) (pre todo : List Nat) : St :=
  ⟨[(1, q), (2, pe), (3, .int .i64 fr), (4, .int .i64 to), (12, .ref 0 0 n n), (13, .ref 1 pre.length todo.length todo.length), (14, .int .i64 at_), (41, pe), (42, .int .i64 len), (43, .int .i64 k)], [.row (out.map encI) 1 true, .row ((pre ++ todo).map encN) 1 true]⟩
noncomputable def canonP4 (n : Nat) (q pe : PV) (fr to : Nat) (out : List Int) (pre todo : List Nat) : St :=
  ⟨[(1, q), (2, pe), (3, .int .i64 fr), (4, .int .i64 to), (12, .ref 0 0 n n), (13, .ref 1 pre.length todo.length todo.length)], [.row (out.map encI) 1 true, .row ((pre ++ todo).map encN) 1 true]⟩
noncomputable def canonP0 (n : Nat) (q pe : PV) (fr to : Nat) (out : List Int) : St :=
  ⟨[(1, q), (2, pe), (3, .int .i64 fr), (4, .int .i64 to), (12, .ref 0 0 n n)], [.row (out.map encI) 1 true]⟩
def postP8 (n : Nat) (q pe : PV) (fr to : Nat) (s : List Int × List Nat) (r : Ex × St) : Prop :=
  r.1 = .exit 2 ∧ ∃ pre, maskK (hints.keepB 56 2) ⟨56, 0, 139⟩ r.2 = some (canonP4 n q pe fr to s.1 pre s.2)
theorem useM (k : Nat) : (!decide ((k : Int) = -1)) = true := by simp only [Bool.not_eq_true', decide_eq_false_iff_not]; omega
set_option maxHeartbeats 8000000 in
theorem path_edges (n : Nat) (hn : n ≤ 24) (q : PV) (l : List (Nat × Nat)) (hq : Sl q (l.map enc2N)) (hok : okL n l) (hl : l.length ≤ 64) (fr to at_ d : Nat) (hat : at_ < n) (hd : d ≤ 1000) : ∀ (a : Nat × List Int × List Nat × List Nat) (t : St), (a.1 ≤ l.length ∧ a.2.1.length = n ∧ cnt a.2.1 + a.2.2.2.length ≤ 1000 ∧ a.2.1[at_]? = some (d : Int)) →
    maskK (hints.keep 56 (firstReg (loopOf Try.f56 8))) ⟨56, 0, 139⟩ t = some (canonP8 n q (.lst ((List.range l.length).map encN)) fr to at_ l.length a.1 a.2.1 a.2.2.1 a.2.2.2) →
    Holds (L1.ex ⟨56, 0, 139⟩ (.loop (loopOf Try.f56 8)) t) (postP8 n q (.lst ((List.range l.length).map encN)) fr to (edgesF (-1) at_ (d + 1) a.1 (l.drop a.1) a.2.1 a.2.2.2)) := by
  refine loop_rule (σ := Nat × List Int × List Nat × List Nat) (c := ⟨56, 0, 139⟩) (b := loopOf Try.f56 8) (fun a => canonP8 n q (.lst ((List.range l.length).map encN)) fr to at_ l.length a.1 a.2.1 a.2.2.1 a.2.2.2) (fun a => a.1 ≤ l.length ∧ a.2.1.length = n ∧ cnt a.2.1 + a.2.2.2.length ≤ 1000 ∧ a.2.1[at_]? = some (d : Int)) (fun a => l.length - a.1) _ ?_
  rintro ⟨k, out, pre, todo⟩ ⟨hk, hout, hc, hda⟩
  simp only at hk hout hc hda
  obtain ⟨a1, a2, a3, a4, a5, a6, a7⟩ := hq.ids
  have f1 := flatI out 1 true
  have f2 := flatN (pre ++ todo) 1 true
  by_cases hlt : k < l.length
  · have hix := fun H => index_sl (P := Try.prog) (H := H) hq slZ22 (k := .i64) (j := k) (by omega) (get2N hlt) rfl
    have hie := fun H => index_sl (P := Try.prog) (H := H) (.inr rfl : Sl (.lst ((List.range l.length).map encN)) _) slZ24 (k := .i64) (j := k) (by omega) (c := [.int .i64 (k : Nat)]) (by rw [Int.toNat_natCast, List.getElem?_map, List.getElem?_range hlt]; rfl) rfl
    have hlt' : decide ((k : Int) < l.length) = true := decide_eq_true (by omega)
    have hw : IntKind.i64.wrap ((k : Int) + 1) = ((k + 1 : Nat) : Int) := wrap64 (by omega) (by omega)
    have hwd : IntKind.i64.wrap ((d : Int) + 1) = ((d + 1 : Nat) : Int) := wrap64 (by omega) (by omega)
    have hx := hok _ (List.getElem_mem hlt)
    have skip := @edgesF_skip (-1) at_ (d + 1) k l hlt out todo
    have take := @edgesF_take (-1) at_ (d + 1) k l hlt out todo
    rw [useM k, Bool.true_and] at skip take
    generalize l[k] = x at hix hx skip take
    obtain ⟨a, b⟩ := x
    simp only at hix hx
    have hgat : (out.map encI)[at_]? = some [.int .i64 (d : Nat)] := by rw [List.getElem?_map, hda]; rfl
    have hatn : (at_ : Int) < (n : Int) := by omega
    by_cases ct : touch (a, b) at_ = true
    · have hab : a = at_ ∨ b = at_ := by simpa [touch] using ct
      have hs1 : IntKind.i64.wrap ((a : Int) + (b : Int)) = ((a + b : Nat) : Int) := wrap64 (by omega) (by omega)
      have hs2 : IntKind.i64.wrap (((a + b : Nat) : Int) - (at_ : Int)) = ((oth (a, b) at_ : Nat) : Int) := by
        rw [wrap64 (by omega) (by omega)]; simp only [oth]; omega
      have ho : oth (a, b) at_ < n := by simp only [oth]; omega
      generalize oth (a, b) at_ = y at hs2 ho skip take
      have hyn : ((y : Nat) : Int) < (n : Int) := by omega
      have hgy := getI (l := out) (i := y) (by omega)
      have hc1 : decide ((a : Int) = (at_ : Int)) = false → decide ((b : Int) = (at_ : Int)) = true := by
        intro h; simp only [decide_eq_false_iff_not] at h; simp only [decide_eq_true_eq]; omega
      by_cases cn : negAt out y = true
      · have hny : decide (out[y] < 0) = true := by rw [← negAt_get (by omega)]; exact cn
        have hcs := cnt_set (d + 1) cn
        have hnext : ∀ r, postP8 n q (.lst ((List.range l.length).map encN)) fr to (edgesF (-1) at_ (d + 1) (k + 1) (l.drop (k + 1)) (out.set y ((d + 1 : Nat) : Int)) (todo ++ [y])) r → postP8 n q (.lst ((List.range l.length).map encN)) fr to (edgesF (-1) at_ (d + 1) k (l.drop k) out todo) r := by
          intro r hr; rw [take (by rw [ct, cn]; rfl)]; exact hr
        have f3 := flatI (out.set y ((d + 1 : Nat) : Int)) 1 true
        have f4 := flatN (todo ++ [y]) 1 true
        have hda' : (out.set y ((d + 1 : Nat) : Int))[at_]? = some (d : Int) := by
          rw [List.getElem?_set_ne, hda]
          rintro rfl
          rw [List.getElem?_eq_getElem (by omega)] at hda
          simp only [Option.some.injEq] at hda
          rw [hda] at hny
          simp at hny; omega
        have hap : ∀ H : List Mem, H[1]? = some (.row ((pre ++ todo).map encN) 1 true) → appendS H 1 8 (.ref 1 pre.length todo.length todo.length) [[.int .i64 y]] = some (.ref H.length 0 (todo.length + 1) (todo.length + 1), H.set 1 .dead ++ [.row ((todo ++ [y]).map encN) 1 true]) := by
          intro H hH
          rw [List.map_append] at hH ⊢
          exact app_row hH (by simp) (by simp) (by omega) _
        cases ha : decide ((a : Int) = (at_ : Int)) with
        | true =>
          simp (decide := true) (implicitDefEqProofs := false) only [Am.findLoop, Am.loopOf, Am.bodyOf, Am.firstReg, Nat.beq, cond_true, cond_false, Am.splice, Am.walkW, Am.stdW, id, reduceCtorEq, Nat.reduceAdd, Nat.reduceSub, Nat.reduceMul, List.forall_mem_cons, List.forall_mem_nil, false_implies, implies_true, Try.f56, factsOf56, canonP8, hix, hie, hlt', hw, hwd, hgat, hatn, keep56_8, f1, f2, f3, f4, a1, a2, a3, a4, a5, a6, a7, ha, hs1, hs2, hyn, hgy, hny, setI, hap, List.replicate_succ, List.replicate_zero, buildSliceM, fillRow, appendF, appendH, src_lst, src_ref, elemsO_row, headOk_one, Nat.le_refl, Am.compactK, Am.idsT, Am.closeStep, Am.keepW, Am.kstdW]
          exact ⟨(k + 1, out.set y ((d + 1 : Nat) : Int), [], todo ++ [y]), by simp only [canonP8, List.length_append, List.length_cons, List.length_nil, List.nil_append, Nat.zero_add], ⟨hlt, by simpa using hout, by simp only [List.length_append, List.length_cons, List.length_nil]; omega, hda'⟩, by simp only; omega, hnext⟩
        | false =>
          have hb := hc1 ha
          simp (decide := true) (implicitDefEqProofs := false) only [Am.findLoop, Am.loopOf, Am.bodyOf, Am.firstReg, Nat.beq, cond_true, cond_false, Am.splice, Am.walkW, Am.stdW, id, reduceCtorEq, Nat.reduceAdd, Nat.reduceSub, Nat.reduceMul, List.forall_mem_cons, List.forall_mem_nil, false_implies, implies_true, Try.f56, factsOf56, canonP8, hix, hie, hlt', hw, hwd, hgat, hatn, keep56_8, f1, f2, f3, f4, a1, a2, a3, a4, a5, a6, a7, ha, hb, hs1, hs2, hyn, hgy, hny, setI, hap, List.replicate_succ, List.replicate_zero, buildSliceM, fillRow, appendF, appendH, src_lst, src_ref, elemsO_row, headOk_one, Nat.le_refl, Am.compactK, Am.idsT, Am.closeStep, Am.keepW, Am.kstdW]
          exact ⟨(k + 1, out.set y ((d + 1 : Nat) : Int), [], todo ++ [y]), by simp only [canonP8, List.length_append, List.length_cons, List.length_nil, List.nil_append, Nat.zero_add], ⟨hlt, by simpa using hout, by simp only [List.length_append, List.length_cons, List.length_nil]; omega, hda'⟩, by simp only; omega, hnext⟩
      · have cn' : negAt out y = false := by simpa using cn
        have hny : decide (out[y] < 0) = false := by rw [← negAt_get (by omega)]; exact cn'
        have hnext : ∀ r, postP8 n q (.lst ((List.range l.length).map encN)) fr to (edgesF (-1) at_ (d + 1) (k + 1) (l.drop (k + 1)) out todo) r → postP8 n q (.lst ((List.range l.length).map encN)) fr to (edgesF (-1) at_ (d + 1) k (l.drop k) out todo) r := by
          intro r hr; rw [skip (by rw [cn', Bool.and_false])]; exact hr
        cases ha : decide ((a : Int) = (at_ : Int)) with
        | true =>
          simp (decide := true) (implicitDefEqProofs := false) only [Am.findLoop, Am.loopOf, Am.bodyOf, Am.firstReg, Nat.beq, cond_true, cond_false, Am.splice, Am.walkW, Am.stdW, id, reduceCtorEq, Nat.reduceAdd, Nat.reduceSub, Nat.reduceMul, List.forall_mem_cons, List.forall_mem_nil, false_implies, implies_true, Try.f56, factsOf56, canonP8, hix, hie, hlt', hw, keep56_8, f1, f2, a1, a2, a3, a4, a5, a6, a7, ha, hs1, hs2, hyn, hgy, hny, Am.compactK, Am.idsT, Am.closeStep, Am.keepW, Am.kstdW]
          exact ⟨(k + 1, out, pre, todo), rfl, ⟨hlt, hout, hc, hda⟩, by simp only; omega, hnext⟩
        | false =>
          have hb := hc1 ha
          simp (decide := true) (implicitDefEqProofs := false) only [Am.findLoop, Am.loopOf, Am.bodyOf, Am.firstReg, Nat.beq, cond_true, cond_false, Am.splice, Am.walkW, Am.stdW, id, reduceCtorEq, Nat.reduceAdd, Nat.reduceSub, Nat.reduceMul, List.forall_mem_cons, List.forall_mem_nil, false_implies, implies_true, Try.f56, factsOf56, canonP8, hix, hie, hlt', hw, keep56_8, f1, f2, a1, a2, a3, a4, a5, a6, a7, ha, hb, hs1, hs2, hyn, hgy, hny, Am.compactK, Am.idsT, Am.closeStep, Am.keepW, Am.kstdW]
          exact ⟨(k + 1, out, pre, todo), rfl, ⟨hlt, hout, hc, hda⟩, by simp only; omega, hnext⟩
    · have ct' : touch (a, b) at_ = false := by simpa using ct
      have hab : decide ((a : Int) = (at_ : Int)) = false ∧ decide ((b : Int) = (at_ : Int)) = false := by
        simp only [touch, Bool.or_eq_false_iff, decide_eq_false_iff_not] at ct'; exact ⟨decide_eq_false (by omega), decide_eq_false (by omega)⟩
      simp (decide := true) (implicitDefEqProofs := false) only [Am.findLoop, Am.loopOf, Am.bodyOf, Am.firstReg, Nat.beq, cond_true, cond_false, Am.splice, Am.walkW, Am.stdW, id, reduceCtorEq, Nat.reduceAdd, Nat.reduceSub, Nat.reduceMul, List.forall_mem_cons, List.forall_mem_nil, false_implies, implies_true, Try.f56, factsOf56, canonP8, hix, hie, hlt', hw, keep56_8, f1, f2, a1, a2, a3, a4, a5, a6, a7, hab.1, hab.2, Am.compactK, Am.idsT, Am.closeStep, Am.keepW, Am.kstdW]
      exact ⟨(k + 1, out, pre, todo), rfl, ⟨hlt, hout, hc, hda⟩, by simp only; omega, fun r hr => by rw [skip (by rw [ct', Bool.false_and])]; exact hr⟩
  · have hlt' : decide ((k : Int) < l.length) = false := decide_eq_false (by omega)
    simp (decide := true) (implicitDefEqProofs := false) only [Am.findLoop, Am.loopOf, Am.bodyOf, Am.firstReg, Nat.beq, cond_true, cond_false, Am.splice, Am.walkW, Am.stdW, id, reduceCtorEq, Nat.reduceAdd, Nat.reduceSub, Nat.reduceMul, List.forall_mem_cons, List.forall_mem_nil, false_implies, implies_true, Try.f56, factsOf56, canonP8, hlt', a7]
    refine ⟨rfl, pre, ?_⟩
    rw [edgesF_end (-1) at_ (d + 1) hlt]
    simp (decide := true) (implicitDefEqProofs := false) only [Am.findLoop, Am.loopOf, Am.bodyOf, Am.firstReg, Nat.beq, cond_true, cond_false, Am.splice, Am.walkW, Am.stdW, id, reduceCtorEq, Nat.reduceAdd, Nat.reduceSub, Nat.reduceMul, List.forall_mem_cons, List.forall_mem_nil, false_implies, implies_true, Try.f56, factsOf56, canonP4, f1, f2, a1, a2, a3, a4, a5, a6, a7, Am.compactK, Am.idsT, Am.closeStep, Am.keepW, Am.kstdW]
end Go.Proofs.Ytcclbkkgpcpikaa

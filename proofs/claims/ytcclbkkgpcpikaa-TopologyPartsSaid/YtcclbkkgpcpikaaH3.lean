import Derived.Test.YtcclbkkgpcpikaaH2
set_option linter.unusedSimpArgs false
set_option linter.unusedVariables false
namespace Go.Proofs.Ytcclbkkgpcpikaa
open Go.Am
set_option maxRecDepth 100000
noncomputable def accN (i : Nat) : List Nat → PV
  | [] => .nils
  | _ :: r => .ref i 0 (r.length + 1) (r.length + 1)
noncomputable def accNH : List Nat → List Mem
  | [] => []
  | x :: r => [.row ((x :: r).map encN) 1 true]
def brF (n : Nat) (l0 : List (Nat × Nat)) : Nat → List (Nat × Nat) → List Nat
  | _, [] => []
  | k, x :: r => if (partsF k l0 n).getD x.1 0 = (partsF k l0 n).getD x.2 0 then brF n l0 (k + 1) r else k :: brF n l0 (k + 1) r
theorem partsF_len (wo : Int) (l : List (Nat × Nat)) (n : Nat) : (partsF wo l n).length = n := by rw [partsF, partsGo_len, List.length_replicate]
noncomputable def canonBr (n : Nat) (q : PV) (len k : Nat) (acc : List Nat) : St := ⟨[(0, .int .i64 n), (1, q), (7, accN 0 acc), (17, q), (18, .int .i64 len), (19, .int .i64 k)], accNH acc⟩
def postBr (full : List Nat) (r : Ex × St) : Prop := r.1 = .exit 0 ∧ maskK (hints.keepB 11 0) ⟨11, 0, 45⟩ r.2 = some ⟨[(7, accN 0 full)], accNH full⟩
set_option maxHeartbeats 8000000 in
theorem bridges_loop (n : Nat) (hn : n ≤ 24) (q : PV) (l : List (Nat × Nat)) (hq : Sl q (l.map enc2N)) (hok : okL n l) (hl : l.length ≤ 64) : ∀ (a : Nat × List Nat) (t : St), (a.1 ≤ l.length ∧ a.2.length ≤ a.1) →
    maskK (hints.keep 11 (firstReg (loopOf Try.f11 6))) ⟨11, 0, 45⟩ t = some (canonBr n q l.length a.1 a.2) →
    Holds (L1.ex ⟨11, 0, 45⟩ (.loop (loopOf Try.f11 6)) t) (postBr (a.2 ++ brF n l a.1 (l.drop a.1))) := by
  refine loop_rule (σ := Nat × List Nat) (c := ⟨11, 0, 45⟩) (b := loopOf Try.f11 6) (fun a => canonBr n q l.length a.1 a.2) (fun a => a.1 ≤ l.length ∧ a.2.length ≤ a.1) (fun a => l.length - a.1) _ ?_
  rintro ⟨k, acc⟩ ⟨hk, hacc⟩
  simp only at hk hacc
  obtain ⟨a1, a2, a3, a4, a5, a6, a7⟩ := hq.ids
  have hqe := fun H => hq.plain.exp (H := H)
  have hqr := fun H => hq.rch (H := H)
  by_cases hlt : k < l.length
  · have hix := fun H => index_sl (P := Try.prog) (H := H) hq slZ22 (k := .i64) (j := k) (by omega) (get2N hlt) rfl
    have hlt' : decide ((k : Int) < l.length) = true := decide_eq_true (by omega)
    have hw : IntKind.i64.wrap ((k : Int) + 1) = ((k + 1 : Nat) : Int) := wrap64 (by omega) (by omega)
    have hx := hok _ (List.getElem_mem hlt)
    have hp := parts_call n hn k q l hq hok hl
    have hpl := partsF_len k l n
    have hdr : brF n l k (l.drop k) = if (partsF k l n).getD l[k].1 0 = (partsF k l n).getD l[k].2 0 then brF n l (k + 1) (l.drop (k + 1)) else k :: brF n l (k + 1) (l.drop (k + 1)) := by rw [List.drop_eq_getElem_cons hlt, brF]
    generalize l[k] = x at hix hx hdr
    generalize partsF k l n = p at hp hpl hdr
    obtain ⟨a, b⟩ := x
    simp only at hix hx hdr
    have hia := fun H => index_sl (P := Try.prog) (H := H) (.inr rfl : Sl (.lst (p.map encI)) (p.map encI)) slZ24 (k := .i64) (j := a) (by omega) (getI (by omega)) rfl
    have hib := fun H => index_sl (P := Try.prog) (H := H) (.inr rfl : Sl (.lst (p.map encI)) (p.map encI)) slZ24 (k := .i64) (j := b) (by omega) (getI (by omega)) rfl
    rw [List.getD_eq_getElem?_getD, List.getElem?_eq_getElem (by omega), List.getD_eq_getElem?_getD, List.getElem?_eq_getElem (by omega)] at hdr
    simp only [Option.getD_some] at hdr
    simp only [Int.toNat_natCast] at hia hib
    generalize p[a] = u at hia hdr
    generalize p[b] = v at hib hdr
    by_cases c : u = v
    · have c' : decide (u = v) = true := decide_eq_true c
      rw [if_pos c] at hdr
      rw [hdr]
      cases acc with
      | nil =>
        simp (decide := true) (implicitDefEqProofs := false) only [Am.findLoop, Am.loopOf, Am.bodyOf, Am.firstReg, Nat.beq, cond_true, cond_false, Am.splice, Am.walkW, Am.stdW, id, reduceCtorEq, Nat.reduceAdd, Nat.reduceSub, Nat.reduceMul, List.forall_mem_cons, List.forall_mem_nil, false_implies, implies_true, Try.f11, factsOf11, canonBr, accN, accNH, hix, hlt', hw, keep11_6, hp, hia, hib, c', hqe, hqr, a1, a2, a3, a4, a5, a6, a7, Am.compactK, Am.idsT, Am.closeStep, Am.keepW, Am.kstdW]
        exact ⟨(k + 1, []), rfl, ⟨hlt, by simp⟩, by simp only; omega, fun r hr => hr⟩
      | cons y acc =>
        have f1 := flatN (y :: acc) 1 true
        simp only [List.map_cons] at f1
        simp (decide := true) (implicitDefEqProofs := false) only [Am.findLoop, Am.loopOf, Am.bodyOf, Am.firstReg, Nat.beq, cond_true, cond_false, Am.splice, Am.walkW, Am.stdW, id, reduceCtorEq, Nat.reduceAdd, Nat.reduceSub, Nat.reduceMul, List.forall_mem_cons, List.forall_mem_nil, false_implies, implies_true, Try.f11, factsOf11, canonBr, accN, accNH, hix, hlt', hw, keep11_6, hp, hia, hib, c', hqe, hqr, f1, a1, a2, a3, a4, a5, a6, a7, Am.compactK, Am.idsT, Am.closeStep, Am.keepW, Am.kstdW]
        exact ⟨(k + 1, y :: acc), rfl, ⟨hlt, by simp only [List.length_cons] at hacc ⊢; omega⟩, by simp only; omega, fun r hr => hr⟩
    · have c' : decide (u = v) = false := decide_eq_false c
      rw [if_neg c] at hdr
      rw [hdr]
      cases acc with
      | nil =>
        have f1 : flatM (.row [[.int .i64 (k : Nat)]] 1 true) = true := flatN [k] 1 true
        simp (decide := true) (implicitDefEqProofs := false) only [Am.findLoop, Am.loopOf, Am.bodyOf, Am.firstReg, Nat.beq, cond_true, cond_false, Am.splice, Am.walkW, Am.stdW, id, reduceCtorEq, Nat.reduceAdd, Nat.reduceSub, Nat.reduceMul, List.forall_mem_cons, List.forall_mem_nil, false_implies, implies_true, Try.f11, factsOf11, canonBr, accN, accNH, hix, hlt', hw, keep11_6, hp, hia, hib, c', hqe, hqr, f1, appS_nil, List.replicate_succ, List.replicate_zero, buildSliceM, fillRow, appendF, appendH, src_lst, src_ref, elemsO_row, headOk_one, Nat.le_refl, a1, a2, a3, a4, a5, a6, a7, Am.compactK, Am.idsT, Am.closeStep, Am.keepW, Am.kstdW]
        exact ⟨(k + 1, [k]), rfl, ⟨hlt, by simp⟩, by simp only; omega, fun r hr => hr⟩
      | cons y acc =>
        have f1 := flatN (y :: acc) 1 true
        have f2 := flatN (y :: acc ++ [k]) 1 true
        have hap : ∀ H : List Mem, H[0]? = some (.row ((y :: acc).map encN) 1 true) → appendS H 1 8 (.ref 0 0 (acc.length + 1) (acc.length + 1)) [[.int .i64 k]] = some (.ref H.length 0 (acc.length + 1 + 1) (acc.length + 1 + 1), H.set 0 .dead ++ [.row ((y :: acc ++ [k]).map encN) 1 true]) := by
          intro H hH
          rw [List.map_append]
          exact appS_full hH (by simp) (by simp only [List.length_cons] at hacc; omega) _
        simp only [List.map_cons, List.cons_append] at f1 f2 hap
        have hnx : ∀ r, postBr (y :: acc ++ [k] ++ brF n l (k + 1) (l.drop (k + 1))) r → postBr (y :: (acc ++ k :: brF n l (k + 1) (l.drop (k + 1)))) r := fun r hr => by simpa using hr
        simp (decide := true) (implicitDefEqProofs := false) only [Am.findLoop, Am.loopOf, Am.bodyOf, Am.firstReg, Nat.beq, cond_true, cond_false, Am.splice, Am.walkW, Am.stdW, id, reduceCtorEq, Nat.reduceAdd, Nat.reduceSub, Nat.reduceMul, List.forall_mem_cons, List.forall_mem_nil, false_implies, implies_true, Try.f11, factsOf11, canonBr, accN, accNH, hix, hlt', hw, keep11_6, hp, hia, hib, c', hqe, hqr, f1, f2, hap, List.replicate_succ, List.replicate_zero, buildSliceM, fillRow, appendF, appendH, src_lst, src_ref, elemsO_row, headOk_one, Nat.le_refl, a1, a2, a3, a4, a5, a6, a7, Am.compactK, Am.idsT, Am.closeStep, Am.keepW, Am.kstdW]
        exact ⟨(k + 1, y :: acc ++ [k]), by simp only [accN, accNH, List.cons_append, List.length_append, List.length_cons, List.length_nil, List.map_cons], ⟨hlt, by simp only [List.length_cons, List.length_append, List.length_nil] at hacc ⊢; omega⟩, by simp only; omega, hnx⟩
  · have hlt' : decide ((k : Int) < l.length) = false := decide_eq_false (by omega)
    have e : brF n l k (l.drop k) = [] := by rw [List.drop_eq_nil_of_le (by omega)]; rfl
    rw [e, List.append_nil]
    cases acc with
    | nil =>
      simp (decide := true) (implicitDefEqProofs := false) only [Am.findLoop, Am.loopOf, Am.bodyOf, Am.firstReg, Nat.beq, cond_true, cond_false, Am.splice, Am.walkW, Am.stdW, id, reduceCtorEq, Nat.reduceAdd, Nat.reduceSub, Nat.reduceMul, List.forall_mem_cons, List.forall_mem_nil, false_implies, implies_true, Try.f11, factsOf11, canonBr, accN, accNH, hlt', a7]
      refine ⟨rfl, ?_⟩
      simp (decide := true) (implicitDefEqProofs := false) only [Am.findLoop, Am.loopOf, Am.bodyOf, Am.firstReg, Nat.beq, cond_true, cond_false, Am.splice, Am.walkW, Am.stdW, id, reduceCtorEq, Nat.reduceAdd, Nat.reduceSub, Nat.reduceMul, List.forall_mem_cons, List.forall_mem_nil, false_implies, implies_true, Try.f11, factsOf11, accN, accNH, Am.compactK, Am.idsT, Am.closeStep, Am.keepW, Am.kstdW]
    | cons y acc =>
      have f1 := flatN (y :: acc) 1 true
      simp only [List.map_cons] at f1
      simp (decide := true) (implicitDefEqProofs := false) only [Am.findLoop, Am.loopOf, Am.bodyOf, Am.firstReg, Nat.beq, cond_true, cond_false, Am.splice, Am.walkW, Am.stdW, id, reduceCtorEq, Nat.reduceAdd, Nat.reduceSub, Nat.reduceMul, List.forall_mem_cons, List.forall_mem_nil, false_implies, implies_true, Try.f11, factsOf11, canonBr, accN, accNH, hlt', a7]
      refine ⟨rfl, ?_⟩
      simp (decide := true) (implicitDefEqProofs := false) only [Am.findLoop, Am.loopOf, Am.bodyOf, Am.firstReg, Nat.beq, cond_true, cond_false, Am.splice, Am.walkW, Am.stdW, id, reduceCtorEq, Nat.reduceAdd, Nat.reduceSub, Nat.reduceMul, List.forall_mem_cons, List.forall_mem_nil, false_implies, implies_true, Try.f11, factsOf11, accN, accNH, f1, Am.compactK, Am.idsT, Am.closeStep, Am.keepW, Am.kstdW]
theorem br_bad (q : PV) (l : List (Int × Int)) (hq : Sl q (l.map enc2)) (n : Int) (hb : graphCheck n l ≠ 0) : pureCall hints L1 11 [.int .i64 n, q] = some (.tup [.nils, .int .i64 (graphCheck n l)]) := by
  have hc := gcheck_call q l hq n
  have hb' : decide (graphCheck n l = 0) = false := decide_eq_false hb
  have hqe := fun H => hq.plain.exp (H := H)
  have hqr := fun H => hq.rch (H := H)
  refine pure_of prim11 (Holds.mono (Q := fun r => r.1 = .tup [.nils, .int .i64 (graphCheck n l)]) ?_ fun r hr => by rw [hr]; rfl)
  refine rn_rule (fn := Try.f11) (code := bodyOf Try.f11) ok11 Try.func11 (by kernel_rfl) (Nat.le_of_ble_eq_true (by kernel_rfl)) ?_
  simp (decide := true) (implicitDefEqProofs := false) only [Am.findLoop, Am.loopOf, Am.bodyOf, Am.firstReg, Nat.beq, cond_true, cond_false, Am.splice, Am.walkW, Am.stdW, id, reduceCtorEq, Nat.reduceAdd, Nat.reduceSub, Nat.reduceMul, List.forall_mem_cons, List.forall_mem_nil, false_implies, implies_true, Try.f11, factsOf11, hc, hb', hqe, hqr]
noncomputable def outN (l : List Nat) : PV := match l with
  | [] => .nils
  | x :: r => .lst ((x :: r).map encN)
theorem plainN (l : List Nat) : ∀ c ∈ l.map encN, ∀ x ∈ c, Plain x := by
  intro c hc v hv
  obtain ⟨x, _, rfl⟩ := List.mem_map.1 hc
  simp only [encN, List.mem_cons, List.not_mem_nil, or_false] at hv
  subst hv; exact plain_int _ _
theorem exp_accN (l : List Nat) (n : Nat) : exp (n + 2) (accNH l) (accN 0 l) = some (outN l) := by
  cases l with
  | nil => rfl
  | cons x r =>
    show exp (n + 1 + 1) _ _ = _
    simp only [accN, accNH, exp_ref, List.getElem?_cons_zero, rowC, Nat.zero_add, List.length_map, List.length_cons, Nat.le_refl, if_true, List.drop_zero]
    rw [List.take_of_length_le (by simp), plainss (plainN _)]; rfl
theorem br_ok (q : PV) (l : List (Nat × Nat)) (hq : Sl q (l.map enc2N)) (n : Nat) (hn : n ≤ 24) (hok : okL n l) (hl : l.length ≤ 64) (hg : graphCheck n (l.map castE) = 0) : pureCall hints L1 11 [.int .i64 n, q] = some (.tup [outN (brF n l 0 l), .int .i64 0]) := by
  have hc := gcheck_call q (l.map castE) (by rw [castE_enc]; exact hq) n
  rw [hg] at hc
  obtain ⟨a1, a2, a3, a4, a5, a6, a7⟩ := hq.ids
  have hqe := fun H => hq.plain.exp (H := H)
  have hqr := fun H => hq.rch (H := H)
  have hlen := fun H => len_sl (P := Try.prog) (H := H) hq slZ22
  rw [List.length_map] at hlen
  refine pure_of prim11 (Holds.mono (Q := fun r => r = (.tup [accN 0 (brF n l 0 l), .int .i64 0], accNH (brF n l 0 l))) ?_ fun r hr => by rw [hr]; simp only [exp_tup, omap_cons', omap_nil', exp_accN, exp39_int, Option.bind_some, Option.map_some])
  refine rn_rule (fn := Try.f11) (code := bodyOf Try.f11) ok11 Try.func11 (by kernel_rfl) (Nat.le_of_ble_eq_true (by kernel_rfl)) ?_
  simp (decide := true) (implicitDefEqProofs := false) only [Am.findLoop, Am.loopOf, Am.bodyOf, Am.firstReg, Nat.beq, cond_true, cond_false, Am.splice, Am.walkW, Am.stdW, id, reduceCtorEq, Nat.reduceAdd, Nat.reduceSub, Nat.reduceMul, List.forall_mem_cons, List.forall_mem_nil, false_implies, implies_true, Try.f11, factsOf11, hc, hqe, hqr, hlen]
  simp only [holds_bind]
  refine (bridges_loop n hn q l hq hok hl (0, []) _ ⟨Nat.zero_le _, Nat.le_refl _⟩ ?_).mono ?_
  · show maskK (hints.keep 11 6) _ _ = _
    simp (decide := true) (implicitDefEqProofs := false) only [Am.findLoop, Am.loopOf, Am.bodyOf, Am.firstReg, Nat.beq, cond_true, cond_false, Am.splice, Am.walkW, Am.stdW, id, reduceCtorEq, Nat.reduceAdd, Nat.reduceSub, Nat.reduceMul, List.forall_mem_cons, List.forall_mem_nil, false_implies, implies_true, Try.f11, factsOf11, keep11_6, canonBr, accN, accNH, a1, a2, a3, a4, a5, a6, a7, Am.compactK, Am.idsT, Am.closeStep, Am.keepW, Am.kstdW]
    rfl
  · rintro ⟨e, s'⟩ ⟨h5, h6⟩
    cases h5
    rw [keepB11_0] at h6
    simp only [List.drop_zero, List.nil_append] at h6
    simp (decide := true) (implicitDefEqProofs := false) only [Am.findLoop, Am.loopOf, Am.bodyOf, Am.firstReg, Nat.beq, cond_true, cond_false, Am.splice, Am.walkW, Am.stdW, id, reduceCtorEq, Nat.reduceAdd, Nat.reduceSub, Nat.reduceMul, List.forall_mem_cons, List.forall_mem_nil, false_implies, implies_true, Try.f11, factsOf11, h6]
end Go.Proofs.Ytcclbkkgpcpikaa

import Derived.Test.YtcclbkkgpcpikaaH4
import Derived.Test.YtcclbkkgpcpikaaH6
set_option linter.unusedSimpArgs false
set_option linter.unusedVariables false
namespace Go.Proofs.Ytcclbkkgpcpikaa
open Go.Am
set_option maxRecDepth 100000
theorem clo_call (k j : Nat) : pureCall hints L1 15 [.int .i64 j, .box [.int .i64 k] 0] = some (.bool (!decide ((j : Int) = (k : Int)))) := by
  refine pure_of prim15 (Holds.mono (Q := fun r => r.1 = .bool (!decide ((j : Int) = (k : Int)))) ?_ fun r hr => by rw [hr]; rfl)
  refine rn_rule (fn := Try.f15) (code := bodyOf Try.f15) ok15 Try.func15 (by kernel_rfl) (Nat.le_of_ble_eq_true (by kernel_rfl)) ?_
  simp (decide := true) (implicitDefEqProofs := false) only [Am.findLoop, Am.loopOf, Am.bodyOf, Am.firstReg, Nat.beq, cond_true, cond_false, Am.splice, Am.walkW, Am.stdW, id, reduceCtorEq, Nat.reduceAdd, Nat.reduceSub, Nat.reduceMul, List.forall_mem_cons, List.forall_mem_nil, false_implies, implies_true, Try.f15, factsOf15]
theorem clo_parts (k len : Nat) : Clo 15 [.box [.int .i64 k] 0] (fun j => !decide ((j : Int) = (k : Int))) len :=
  ⟨opn15, imp15, mem15, rfl, rfl, fun H => rfl, fun H => rfl, fun H => rfl, fun j _ => clo_call k j⟩
theorem clo_yes (len : Nat) : Clo 18 [] (fun _ => true) len := ⟨opn18, imp18, mem18, rfl, rfl, fun H => rfl, fun H => rfl, fun H => rfl, fun j _ => yes_call j⟩
def outF (n : Nat) (l0 : List (Nat × Nat)) : Nat → List (Nat × Nat) → List Nat
  | _, [] => []
  | k, x :: r => if gt (joinedF (fun j => !decide ((j : Int) = (k : Int))) n l0) x.1 x.2 = true then outF n l0 (k + 1) r else k :: outF n l0 (k + 1) r
noncomputable def canonLaw (n : Nat) (q p1 p2 : PV) (len k : Nat) (acc : List Nat) : St := ⟨[(0, .int .i64 n), (1, q), (5, p1), (7, p2), (10, accN 0 acc), (64, q), (65, .int .i64 len), (66, .int .i64 k)], accNH acc⟩
def postLaw (n : Nat) (q p1 p2 : PV) (full : List Nat) (r : Ex × St) : Prop := r.1 = .exit 0 ∧ maskK (hints.keepB 3 0) ⟨3, 0, 100⟩ r.2 = some ⟨[(0, .int .i64 n), (1, q), (5, p1), (7, p2), (10, accN 0 full)], accNH full⟩
set_option maxHeartbeats 8000000 in
theorem law_loop (n : Nat) (hn : n ≤ 24) (q : PV) (l : List (Nat × Nat)) (hq : Sl q (l.map enc2N)) (hok : okL n l) (hl : l.length ≤ 64) (p1 p2 : PV) (es1 es2 : List (List PV)) (hp1 : Sl p1 es1) (hp2 : Sl p2 es2) : ∀ (a : Nat × List Nat) (t : St), (a.1 ≤ l.length ∧ a.2.length ≤ a.1) →
    maskK (hints.keep 3 (firstReg (loopOf Try.f3 14))) ⟨3, 0, 100⟩ t = some (canonLaw n q p1 p2 l.length a.1 a.2) →
    Holds (L1.ex ⟨3, 0, 100⟩ (.loop (loopOf Try.f3 14)) t) (postLaw n q p1 p2 (a.2 ++ outF n l a.1 (l.drop a.1))) := by
  refine loop_rule (σ := Nat × List Nat) (c := ⟨3, 0, 100⟩) (b := loopOf Try.f3 14) (fun a => canonLaw n q p1 p2 l.length a.1 a.2) (fun a => a.1 ≤ l.length ∧ a.2.length ≤ a.1) (fun a => l.length - a.1) _ ?_
  rintro ⟨k, acc⟩ ⟨hk, hacc⟩
  simp only at hk hacc
  obtain ⟨a1, a2, a3, a4, a5, a6, a7⟩ := hq.ids
  obtain ⟨b1, b2, b3, b4, b5, b6, b7⟩ := hp1.ids
  obtain ⟨c1, c2, c3, c4, c5, c6, c7⟩ := hp2.ids
  have hqe := fun H => hq.plain.exp (H := H)
  have hqr := fun H => hq.rch (H := H)
  by_cases hlt : k < l.length
  · have hix := fun H => index_sl (P := Try.prog) (H := H) hq slZ22 (k := .i64) (j := k) (by omega) (get2N hlt) rfl
    have hlt' : decide ((k : Int) < l.length) = true := decide_eq_true (by omega)
    have hw : IntKind.i64.wrap ((k : Int) + 1) = ((k + 1 : Nat) : Int) := wrap64 (by omega) (by omega)
    have hx := hok _ (List.getElem_mem hlt)
    have hj := joined_call n hn q l hq hok hl _ _ _ (clo_parts k l.length)
    have hdr : outF n l k (l.drop k) = if gt (joinedF (fun j => !decide ((j : Int) = (k : Int))) n l) l[k].1 l[k].2 = true then outF n l (k + 1) (l.drop (k + 1)) else k :: outF n l (k + 1) (l.drop (k + 1)) := by rw [List.drop_eq_getElem_cons hlt, outF]
    have hJ := joinedF_sq (used := fun j => !decide ((j : Int) = (k : Int))) hok
    generalize l[k] = x at hix hx hdr
    generalize joinedF (fun j => !decide ((j : Int) = (k : Int))) n l = T at hj hdr hJ
    obtain ⟨a, b⟩ := x
    simp only at hix hx hdr
    obtain ⟨r, e1, e2, e3⟩ := hJ.row hx.1
    have hia := fun H => index_sl (P := Try.prog) (H := H) (.inr rfl : Sl (matC T) _) slZ31 (k := .i64) (j := a) (c := [.lst (r.map encT)]) (by omega) (by rw [Int.toNat_natCast, List.getElem?_map, e1]; rfl) rfl
    have hib := fun H => index_sl (P := Try.prog) (H := H) (.inr rfl : Sl (.lst (r.map encT)) (r.map encT)) slZ30 (k := .i64) (j := b) (by omega) (by rw [Int.toNat_natCast]; exact getT (by omega)) rfl
    rw [gt_row e2 (by omega)] at hdr
    rw [hdr]
    generalize r[b] = v at hib
    cases acc with
    | nil =>
      cases v with
      | true =>
        simp (decide := true) (implicitDefEqProofs := false) only [Am.findLoop, Am.loopOf, Am.bodyOf, Am.firstReg, Nat.beq, cond_true, cond_false, Am.splice, Am.walkW, Am.stdW, id, reduceCtorEq, Nat.reduceAdd, Nat.reduceSub, Nat.reduceMul, List.forall_mem_cons, List.forall_mem_nil, false_implies, implies_true, Try.f3, factsOf3, canonLaw, accN, accNH, hix, hlt', hw, hj, hia, hib, hqe, hqr, exp40_ref, exp39_ref, exp39_str, exp39_bool, exp39_int, exp39_lst, exp39_box, exp38_str, exp38_int, rowC_row, rch40_ref, rch39_ref, rch39_str, rch39_bool, rch39_int, rch38_str, rch38_int, rchO_row, exp40_func, exp40_ptr, exp39_ptr, ptrC_row, rch40_func, rch40_ptr, rch39_ptr, rchP_row, freeze_cons, freeze1_O, frzO_row, Option.getD_some, keep3_14, a1, a2, a3, a4, a5, a6, a7, b1, b2, b3, b7, c1, c2, c3, c7, Am.compactK, Am.idsT, Am.closeStep, Am.keepW, Am.kstdW]
        exact ⟨(k + 1, []), rfl, ⟨hlt, by simp⟩, by simp only; omega, fun r hr => hr⟩
      | false =>
        have f1 : flatM (.row [[.int .i64 (k : Nat)]] 1 true) = true := flatN [k] 1 true
        simp (decide := true) (implicitDefEqProofs := false) only [Am.findLoop, Am.loopOf, Am.bodyOf, Am.firstReg, Nat.beq, cond_true, cond_false, Am.splice, Am.walkW, Am.stdW, id, reduceCtorEq, Nat.reduceAdd, Nat.reduceSub, Nat.reduceMul, List.forall_mem_cons, List.forall_mem_nil, false_implies, implies_true, Try.f3, factsOf3, canonLaw, accN, accNH, hix, hlt', hw, hj, hia, hib, hqe, hqr, exp40_ref, exp39_ref, exp39_str, exp39_bool, exp39_int, exp39_lst, exp39_box, exp38_str, exp38_int, rowC_row, rch40_ref, rch39_ref, rch39_str, rch39_bool, rch39_int, rch38_str, rch38_int, rchO_row, exp40_func, exp40_ptr, exp39_ptr, ptrC_row, rch40_func, rch40_ptr, rch39_ptr, rchP_row, freeze_cons, freeze1_O, frzO_row, Option.getD_some, f1, appS_nil, List.replicate_succ, List.replicate_zero, buildSliceM, fillRow, appendF, appendH, src_lst, src_ref, elemsO_row, headOk_one, Nat.le_refl, keep3_14, a1, a2, a3, a4, a5, a6, a7, b1, b2, b3, b7, c1, c2, c3, c7, Am.compactK, Am.idsT, Am.closeStep, Am.keepW, Am.kstdW]
        exact ⟨(k + 1, [k]), rfl, ⟨hlt, by simp⟩, by simp only; omega, fun r hr => hr⟩
    | cons y acc =>
      have f1 := flatN (y :: acc) 1 true
      have f2 := flatN (y :: acc ++ [k]) 1 true
      have hap : ∀ H : List Mem, H[0]? = some (.row ((y :: acc).map encN) 1 true) → appendS H 1 8 (.ref 0 0 (acc.length + 1) (acc.length + 1)) [[.int .i64 k]] = some (.ref H.length 0 (acc.length + 1 + 1) (acc.length + 1 + 1), H.set 0 .dead ++ [.row ((y :: acc ++ [k]).map encN) 1 true]) := by
        intro H hH
        rw [List.map_append]
        exact appS_full hH (by simp) (by simp only [List.length_cons] at hacc; omega) _
      simp only [List.map_cons, List.cons_append] at f1 f2 hap
      have hnx : ∀ r, postLaw n q p1 p2 (y :: acc ++ [k] ++ outF n l (k + 1) (l.drop (k + 1))) r → postLaw n q p1 p2 (y :: (acc ++ k :: outF n l (k + 1) (l.drop (k + 1)))) r := fun r hr => by simpa using hr
      cases v with
      | true =>
        simp (decide := true) (implicitDefEqProofs := false) only [Am.findLoop, Am.loopOf, Am.bodyOf, Am.firstReg, Nat.beq, cond_true, cond_false, Am.splice, Am.walkW, Am.stdW, id, reduceCtorEq, Nat.reduceAdd, Nat.reduceSub, Nat.reduceMul, List.forall_mem_cons, List.forall_mem_nil, false_implies, implies_true, Try.f3, factsOf3, canonLaw, accN, accNH, hix, hlt', hw, hj, hia, hib, hqe, hqr, exp40_ref, exp39_ref, exp39_str, exp39_bool, exp39_int, exp39_lst, exp39_box, exp38_str, exp38_int, rowC_row, rch40_ref, rch39_ref, rch39_str, rch39_bool, rch39_int, rch38_str, rch38_int, rchO_row, exp40_func, exp40_ptr, exp39_ptr, ptrC_row, rch40_func, rch40_ptr, rch39_ptr, rchP_row, freeze_cons, freeze1_O, frzO_row, Option.getD_some, f1, keep3_14, a1, a2, a3, a4, a5, a6, a7, b1, b2, b3, b7, c1, c2, c3, c7, Am.compactK, Am.idsT, Am.closeStep, Am.keepW, Am.kstdW]
        exact ⟨(k + 1, y :: acc), rfl, ⟨hlt, by simp only [List.length_cons] at hacc ⊢; omega⟩, by simp only; omega, fun r hr => hr⟩
      | false =>
        simp (decide := true) (implicitDefEqProofs := false) only [Am.findLoop, Am.loopOf, Am.bodyOf, Am.firstReg, Nat.beq, cond_true, cond_false, Am.splice, Am.walkW, Am.stdW, id, reduceCtorEq, Nat.reduceAdd, Nat.reduceSub, Nat.reduceMul, List.forall_mem_cons, List.forall_mem_nil, false_implies, implies_true, Try.f3, factsOf3, canonLaw, accN, accNH, hix, hlt', hw, hj, hia, hib, hqe, hqr, exp40_ref, exp39_ref, exp39_str, exp39_bool, exp39_int, exp39_lst, exp39_box, exp38_str, exp38_int, rowC_row, rch40_ref, rch39_ref, rch39_str, rch39_bool, rch39_int, rch38_str, rch38_int, rchO_row, exp40_func, exp40_ptr, exp39_ptr, ptrC_row, rch40_func, rch40_ptr, rch39_ptr, rchP_row, freeze_cons, freeze1_O, frzO_row, Option.getD_some, f1, f2, hap, List.replicate_succ, List.replicate_zero, buildSliceM, fillRow, appendF, appendH, src_lst, src_ref, elemsO_row, headOk_one, Nat.le_refl, keep3_14, a1, a2, a3, a4, a5, a6, a7, b1, b2, b3, b7, c1, c2, c3, c7, Am.compactK, Am.idsT, Am.closeStep, Am.keepW, Am.kstdW]
        exact ⟨(k + 1, y :: acc ++ [k]), by simp only [accN, accNH, List.cons_append, List.length_append, List.length_cons, List.length_nil, List.map_cons], ⟨hlt, by simp only [List.length_cons, List.length_append, List.length_nil] at hacc ⊢; omega⟩, by simp only; omega, hnx⟩
  · have hlt' : decide ((k : Int) < l.length) = false := decide_eq_false (by omega)
    have e : outF n l k (l.drop k) = [] := by rw [List.drop_eq_nil_of_le (by omega)]; rfl
    rw [e, List.append_nil]
    cases acc with
    | nil =>
      simp (decide := true) (implicitDefEqProofs := false) only [Am.findLoop, Am.loopOf, Am.bodyOf, Am.firstReg, Nat.beq, cond_true, cond_false, Am.splice, Am.walkW, Am.stdW, id, reduceCtorEq, Nat.reduceAdd, Nat.reduceSub, Nat.reduceMul, List.forall_mem_cons, List.forall_mem_nil, false_implies, implies_true, Try.f3, factsOf3, canonLaw, accN, accNH, hlt', a7]
      refine ⟨rfl, ?_⟩
      simp (decide := true) (implicitDefEqProofs := false) only [Am.findLoop, Am.loopOf, Am.bodyOf, Am.firstReg, Nat.beq, cond_true, cond_false, Am.splice, Am.walkW, Am.stdW, id, reduceCtorEq, Nat.reduceAdd, Nat.reduceSub, Nat.reduceMul, List.forall_mem_cons, List.forall_mem_nil, false_implies, implies_true, Try.f3, factsOf3, accN, accNH, a1, a2, a3, a4, a5, a6, a7, b1, b2, b3, b7, c1, c2, c3, c7, Am.compactK, Am.idsT, Am.closeStep, Am.keepW, Am.kstdW]
    | cons y acc =>
      have f1 := flatN (y :: acc) 1 true
      simp only [List.map_cons] at f1
      simp (decide := true) (implicitDefEqProofs := false) only [Am.findLoop, Am.loopOf, Am.bodyOf, Am.firstReg, Nat.beq, cond_true, cond_false, Am.splice, Am.walkW, Am.stdW, id, reduceCtorEq, Nat.reduceAdd, Nat.reduceSub, Nat.reduceMul, List.forall_mem_cons, List.forall_mem_nil, false_implies, implies_true, Try.f3, factsOf3, canonLaw, accN, accNH, hlt', a7]
      refine ⟨rfl, ?_⟩
      simp (decide := true) (implicitDefEqProofs := false) only [Am.findLoop, Am.loopOf, Am.bodyOf, Am.firstReg, Nat.beq, cond_true, cond_false, Am.splice, Am.walkW, Am.stdW, id, reduceCtorEq, Nat.reduceAdd, Nat.reduceSub, Nat.reduceMul, List.forall_mem_cons, List.forall_mem_nil, false_implies, implies_true, Try.f3, factsOf3, accN, accNH, f1, a1, a2, a3, a4, a5, a6, a7, b1, b2, b3, b7, c1, c2, c3, c7, Am.compactK, Am.idsT, Am.closeStep, Am.keepW, Am.kstdW]
end Go.Proofs.Ytcclbkkgpcpikaa

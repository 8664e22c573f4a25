import Derived.Test.YtcclbkkgpcpikaaH3
import Derived.Test.YtcclbkkgpcpikaaH5
set_option linter.unusedSimpArgs false
set_option linter.unusedVariables false
namespace Go.Proofs.Ytcclbkkgpcpikaa
open Go.Am
set_option maxRecDepth 100000
def atF (T : List (List Bool)) (acc : List Nat) (i : Nat) : Nat → Nat → Int → Int
  | 0, _, a => a
  | c + 1, k, a => atF T acc i c (k + 1) (if (gt T i k && decide (a < 0)) = true then (acc.getD k 0 : Nat) else a)
def numF (T : List (List Bool)) : Nat → Nat → Nat → List Nat → List Nat
  | 0, _, _, acc => acc
  | c + 1, i, many, acc => if atF T acc i i 0 (-1) < 0 then numF T c (i + 1) (many + 1) (acc ++ [many]) else numF T c (i + 1) many (acc ++ [(atF T acc i i 0 (-1)).toNat])
noncomputable def canonNo (n : Nat) (T : List (List Bool)) (i many : Nat) (acc : List Nat) : St := ⟨[(0, matC T), (3, accN 0 acc), (4, .int .i64 many), (9, .int .i64 n), (10, .int .i64 i)], accNH acc⟩
noncomputable def canonNi (n : Nat) (T : List (List Bool)) (i many : Nat) (acc : List Nat) (a : Int) (k : Nat) : St := ⟨[(0, matC T), (3, accN 0 acc), (4, .int .i64 many), (5, .int .i64 i), (6, .int .i64 a), (9, .int .i64 n), (10, .int .i64 i), (13, .int .i64 i), (14, .int .i64 k)], accNH acc⟩
noncomputable def canonNx (n : Nat) (T : List (List Bool)) (i many : Nat) (acc : List Nat) (a : Int) : St := ⟨[(0, matC T), (3, accN 0 acc), (4, .int .i64 many), (6, .int .i64 a), (9, .int .i64 n), (10, .int .i64 i)], accNH acc⟩
def postNi (n : Nat) (T : List (List Bool)) (i many : Nat) (acc : List Nat) (a : Int) (r : Ex × St) : Prop := r.1 = .exit 2 ∧ maskK (hints.keepB 17 2) ⟨17, 0, 44⟩ r.2 = some (canonNx n T i many acc a)
theorem matC_eq (T : List (List Bool)) : matC T = .lst (T.map fun r => [.lst (r.map encT)]) := rfl
set_option maxHeartbeats 8000000 in
theorem numbers_inner (n : Nat) (hn : n ≤ 24) (T : List (List Bool)) (hT : Sq n T) (i many : Nat) (acc : List Nat) (hi : i < n) (hacc : acc.length = i) : ∀ (s : Nat × Int) (t : St), s.1 ≤ i →
    maskK (hints.keep 17 (firstReg (loopOf Try.f17 8))) ⟨17, 0, 44⟩ t = some (canonNi n T i many acc s.2 s.1) →
    Holds (L1.ex ⟨17, 0, 44⟩ (.loop (loopOf Try.f17 8)) t) (postNi n T i many acc (atF T acc i (i - s.1) s.1 s.2)) := by
  refine loop_rule (σ := Nat × Int) (c := ⟨17, 0, 44⟩) (b := loopOf Try.f17 8) (fun s => canonNi n T i many acc s.2 s.1) (fun s => s.1 ≤ i) (fun s => i - s.1) _ ?_
  rintro ⟨k, a⟩ hk
  simp only at hk
  by_cases hlt : k < i
  · have hlt' : decide ((k : Int) < (i : Int)) = true := decide_eq_true (by omega)
    have hw : IntKind.i64.wrap ((k : Int) + 1) = ((k + 1 : Nat) : Int) := wrap64 (by omega) (by omega)
    obtain ⟨r, e1, e2, e3⟩ := hT.row hi
    have hix := fun H => index_sl (P := Try.prog) (H := H) (.inr rfl : Sl (matC T) _) slZ31 (k := .i64) (j := i) (c := [.lst (r.map encT)]) (by omega) (by rw [Int.toNat_natCast, List.getElem?_map, e1]; rfl) rfl
    have hir := fun H => index_sl (P := Try.prog) (H := H) (.inr rfl : Sl (.lst (r.map encT)) (r.map encT)) slZ30 (k := .i64) (j := k) (by omega) (by rw [Int.toNat_natCast]; exact getT (by omega)) rfl
    simp only [matC_eq] at hix
    have hg : gt T i k = r[k] := gt_row e2 (by omega)
    have hdr : atF T acc i (i - k) k a = atF T acc i (i - (k + 1)) (k + 1) (if (r[k] && decide (a < 0)) = true then (acc.getD k 0 : Nat) else a) := by
      obtain ⟨c, hc⟩ : ∃ c, i - k = c + 1 := ⟨i - k - 1, by omega⟩
      rw [hc, show i - (k + 1) = c by omega, atF, hg]
    rw [hdr]
    generalize r[k] = b at hir
    cases acc with
    | nil => simp at hacc; omega
    | cons y acc =>
      have f1 := flatN (y :: acc) 1 true
      have hgk := getN (l := y :: acc) (i := k) (by omega)
      have hgd : (y :: acc).getD k 0 = (y :: acc)[k]'(by omega) := by rw [List.getD_eq_getElem?_getD, List.getElem?_eq_getElem (by omega)]; rfl
      rw [hgd]
      generalize (y :: acc)[k]'(by omega) = z at hgk
      simp only [List.map_cons] at f1 hgk
      have lk : (k : Int) < ((acc.length + 1 : Nat) : Int) := by simp only [List.length_cons] at hacc; omega
      cases b with
      | false =>
        simp (decide := true) (implicitDefEqProofs := false) only [Am.findLoop, Am.loopOf, Am.bodyOf, Am.firstReg, Nat.beq, cond_true, cond_false, Am.splice, Am.walkW, Am.stdW, id, reduceCtorEq, Nat.reduceAdd, Nat.reduceSub, Nat.reduceMul, List.forall_mem_cons, List.forall_mem_nil, false_implies, implies_true, Try.f17, factsOf17, canonNi, accN, accNH, hlt', hix, hir, hw, f1, matC_eq, keep17_8, Am.compactK, Am.idsT, Am.closeStep, Am.keepW, Am.kstdW]
        exact ⟨(k + 1, a), rfl, hlt, by simp only; omega, fun r hr => hr⟩
      | true =>
        by_cases ca : a < 0
        · have ca' : decide (a < 0) = true := decide_eq_true ca
          simp (decide := true) (implicitDefEqProofs := false) only [Am.findLoop, Am.loopOf, Am.bodyOf, Am.firstReg, Nat.beq, cond_true, cond_false, Am.splice, Am.walkW, Am.stdW, id, reduceCtorEq, Nat.reduceAdd, Nat.reduceSub, Nat.reduceMul, List.forall_mem_cons, List.forall_mem_nil, false_implies, implies_true, Try.f17, factsOf17, canonNi, accN, accNH, hlt', hix, hir, hw, ca', hgk, lk, f1, matC_eq, keep17_8, Am.compactK, Am.idsT, Am.closeStep, Am.keepW, Am.kstdW]
          exact ⟨(k + 1, z), rfl, hlt, by simp only; omega, fun r hr => hr⟩
        · have ca' : decide (a < 0) = false := decide_eq_false ca
          simp (decide := true) (implicitDefEqProofs := false) only [Am.findLoop, Am.loopOf, Am.bodyOf, Am.firstReg, Nat.beq, cond_true, cond_false, Am.splice, Am.walkW, Am.stdW, id, reduceCtorEq, Nat.reduceAdd, Nat.reduceSub, Nat.reduceMul, List.forall_mem_cons, List.forall_mem_nil, false_implies, implies_true, Try.f17, factsOf17, canonNi, accN, accNH, hlt', hix, hir, hw, ca', f1, matC_eq, keep17_8, Am.compactK, Am.idsT, Am.closeStep, Am.keepW, Am.kstdW]
          exact ⟨(k + 1, a), rfl, hlt, by simp only; omega, fun r hr => hr⟩
  · have hlt' : decide ((k : Int) < (i : Int)) = false := decide_eq_false (by omega)
    rw [show i - k = 0 by omega]
    cases acc with
    | nil =>
      simp (decide := true) (implicitDefEqProofs := false) only [Am.findLoop, Am.loopOf, Am.bodyOf, Am.firstReg, Nat.beq, cond_true, cond_false, Am.splice, Am.walkW, Am.stdW, id, reduceCtorEq, Nat.reduceAdd, Nat.reduceSub, Nat.reduceMul, List.forall_mem_cons, List.forall_mem_nil, false_implies, implies_true, Try.f17, factsOf17, canonNi, hlt']
      refine ⟨rfl, ?_⟩
      simp (decide := true) (implicitDefEqProofs := false) only [Am.findLoop, Am.loopOf, Am.bodyOf, Am.firstReg, Nat.beq, cond_true, cond_false, Am.splice, Am.walkW, Am.stdW, id, reduceCtorEq, Nat.reduceAdd, Nat.reduceSub, Nat.reduceMul, List.forall_mem_cons, List.forall_mem_nil, false_implies, implies_true, Try.f17, factsOf17, accN, accNH, canonNx, atF, matC_eq, Am.compactK, Am.idsT, Am.closeStep, Am.keepW, Am.kstdW]
    | cons y acc =>
      have f1 := flatN (y :: acc) 1 true
      simp only [List.map_cons] at f1
      simp (decide := true) (implicitDefEqProofs := false) only [Am.findLoop, Am.loopOf, Am.bodyOf, Am.firstReg, Nat.beq, cond_true, cond_false, Am.splice, Am.walkW, Am.stdW, id, reduceCtorEq, Nat.reduceAdd, Nat.reduceSub, Nat.reduceMul, List.forall_mem_cons, List.forall_mem_nil, false_implies, implies_true, Try.f17, factsOf17, canonNi, hlt']
      refine ⟨rfl, ?_⟩
      simp (decide := true) (implicitDefEqProofs := false) only [Am.findLoop, Am.loopOf, Am.bodyOf, Am.firstReg, Nat.beq, cond_true, cond_false, Am.splice, Am.walkW, Am.stdW, id, reduceCtorEq, Nat.reduceAdd, Nat.reduceSub, Nat.reduceMul, List.forall_mem_cons, List.forall_mem_nil, false_implies, implies_true, Try.f17, factsOf17, accN, accNH, canonNx, atF, f1, matC_eq, Am.compactK, Am.idsT, Am.closeStep, Am.keepW, Am.kstdW]
def postNo (full : List Nat) (r : Ex × St) : Prop := r.1 = .exit 0 ∧ maskK (hints.keepB 17 0) ⟨17, 0, 44⟩ r.2 = some ⟨[(3, accN 0 full)], accNH full⟩
set_option maxHeartbeats 8000000 in
theorem numbers_outer (n : Nat) (hn : n ≤ 24) (T : List (List Bool)) (hT : Sq n T) : ∀ (s : Nat × Nat × List Nat) (t : St), (s.1 ≤ n ∧ s.2.1 ≤ s.1 ∧ s.2.2.length = s.1) →
    maskK (hints.keep 17 (firstReg (loopOf Try.f17 4))) ⟨17, 0, 44⟩ t = some (canonNo n T s.1 s.2.1 s.2.2) →
    Holds (L1.ex ⟨17, 0, 44⟩ (.loop (loopOf Try.f17 4)) t) (postNo (numF T (n - s.1) s.1 s.2.1 s.2.2)) := by
  refine loop_rule (σ := Nat × Nat × List Nat) (c := ⟨17, 0, 44⟩) (b := loopOf Try.f17 4) (fun s => canonNo n T s.1 s.2.1 s.2.2) (fun s => s.1 ≤ n ∧ s.2.1 ≤ s.1 ∧ s.2.2.length = s.1) (fun s => n - s.1) _ ?_
  rintro ⟨i, many, acc⟩ ⟨hi, hm, hacc⟩
  simp only at hi hm hacc
  by_cases hlt : i < n
  · have hlt' : decide ((i : Int) < (n : Int)) = true := decide_eq_true (by omega)
    have hw : IntKind.i64.wrap ((i : Int) + 1) = ((i + 1 : Nat) : Int) := wrap64 (by omega) (by omega)
    have hwm : IntKind.i64.wrap ((many : Int) + 1) = ((many + 1 : Nat) : Int) := wrap64 (by omega) (by omega)
    have hdr : numF T (n - i) i many acc = if atF T acc i i 0 (-1) < 0 then numF T (n - (i + 1)) (i + 1) (many + 1) (acc ++ [many]) else numF T (n - (i + 1)) (i + 1) many (acc ++ [(atF T acc i i 0 (-1)).toNat]) := by
      obtain ⟨c, hc⟩ : ∃ c, n - i = c + 1 := ⟨n - i - 1, by omega⟩
      rw [hc, show n - (i + 1) = c by omega, numF]
    rw [hdr]
    simp (decide := true) (implicitDefEqProofs := false) only [Am.findLoop, Am.loopOf, Am.bodyOf, Am.firstReg, Nat.beq, cond_true, cond_false, Am.splice, Am.walkW, Am.stdW, id, reduceCtorEq, Nat.reduceAdd, Nat.reduceSub, Nat.reduceMul, List.forall_mem_cons, List.forall_mem_nil, false_implies, implies_true, Try.f17, factsOf17, canonNo, hlt']
    simp only [holds_bind]
    refine (numbers_inner n hn T hT i many acc hlt hacc (0, -1) _ (by simp only; omega) ?_).mono ?_
    · show maskK (hints.keep 17 8) _ _ = _
      cases acc with
      | nil =>
        simp (decide := true) (implicitDefEqProofs := false) only [Am.findLoop, Am.loopOf, Am.bodyOf, Am.firstReg, Nat.beq, cond_true, cond_false, Am.splice, Am.walkW, Am.stdW, id, reduceCtorEq, Nat.reduceAdd, Nat.reduceSub, Nat.reduceMul, List.forall_mem_cons, List.forall_mem_nil, false_implies, implies_true, Try.f17, factsOf17, keep17_8, accN, accNH, canonNi, matC_eq, Am.compactK, Am.idsT, Am.closeStep, Am.keepW, Am.kstdW]
        rfl
      | cons y acc =>
        have f1 := flatN (y :: acc) 1 true
        simp only [List.map_cons] at f1
        simp (decide := true) (implicitDefEqProofs := false) only [Am.findLoop, Am.loopOf, Am.bodyOf, Am.firstReg, Nat.beq, cond_true, cond_false, Am.splice, Am.walkW, Am.stdW, id, reduceCtorEq, Nat.reduceAdd, Nat.reduceSub, Nat.reduceMul, List.forall_mem_cons, List.forall_mem_nil, false_implies, implies_true, Try.f17, factsOf17, keep17_8, accN, accNH, canonNi, f1, matC_eq, Am.compactK, Am.idsT, Am.closeStep, Am.keepW, Am.kstdW]
        rfl
    · rintro ⟨e, s'⟩ ⟨h5, h6⟩
      cases h5
      rw [keepB17_2] at h6
      simp only [Nat.sub_zero] at h6
      generalize atF T acc i i 0 (-1) = a at h6
      by_cases ca : a < 0
      · have ca' : decide (a < 0) = true := decide_eq_true ca
        rw [if_pos ca]
        cases acc with
        | nil =>
          have f1 : flatM (.row [[.int .i64 (many : Nat)]] 1 true) = true := flatN [many] 1 true
          simp (decide := true) (implicitDefEqProofs := false) only [Am.findLoop, Am.loopOf, Am.bodyOf, Am.firstReg, Nat.beq, cond_true, cond_false, Am.splice, Am.walkW, Am.stdW, id, reduceCtorEq, Nat.reduceAdd, Nat.reduceSub, Nat.reduceMul, List.forall_mem_cons, List.forall_mem_nil, false_implies, implies_true, Try.f17, factsOf17, h6, canonNx, accN, accNH, ca', hw, hwm, f1, appS_nil, List.replicate_succ, List.replicate_zero, buildSliceM, fillRow, appendF, appendH, src_lst, src_ref, elemsO_row, headOk_one, Nat.le_refl, matC_eq, keep17_4, Am.compactK, Am.idsT, Am.closeStep, Am.keepW, Am.kstdW]
          exact ⟨(i + 1, many + 1, [many]), rfl, ⟨hlt, by simp only; omega, by simp at hacc ⊢; omega⟩, by simp only; omega, fun r hr => hr⟩
        | cons y acc =>
          have f1 := flatN (y :: acc) 1 true
          have f2 := flatN (y :: acc ++ [many]) 1 true
          have hap : ∀ H : List Mem, H[0]? = some (.row ((y :: acc).map encN) 1 true) → appendS H 1 8 (.ref 0 0 (acc.length + 1) (acc.length + 1)) [[.int .i64 many]] = some (.ref H.length 0 (acc.length + 1 + 1) (acc.length + 1 + 1), H.set 0 .dead ++ [.row ((y :: acc ++ [many]).map encN) 1 true]) := by
            intro H hH
            rw [List.map_append]
            exact appS_full hH (by simp) (by simp only [List.length_cons] at hacc; omega) _
          simp only [List.map_cons, List.cons_append] at f1 f2 hap
          simp (decide := true) (implicitDefEqProofs := false) only [Am.findLoop, Am.loopOf, Am.bodyOf, Am.firstReg, Nat.beq, cond_true, cond_false, Am.splice, Am.walkW, Am.stdW, id, reduceCtorEq, Nat.reduceAdd, Nat.reduceSub, Nat.reduceMul, List.forall_mem_cons, List.forall_mem_nil, false_implies, implies_true, Try.f17, factsOf17, h6, canonNx, accN, accNH, ca', hw, hwm, f1, f2, hap, List.replicate_succ, List.replicate_zero, buildSliceM, fillRow, appendF, appendH, src_lst, src_ref, elemsO_row, headOk_one, Nat.le_refl, matC_eq, keep17_4, Am.compactK, Am.idsT, Am.closeStep, Am.keepW, Am.kstdW]
          exact ⟨(i + 1, many + 1, y :: acc ++ [many]), by simp only [accN, accNH, List.cons_append, List.length_append, List.length_cons, List.length_nil, List.map_cons], ⟨hlt, by simp only; omega, by simp only [List.length_append, List.length_cons, List.length_nil] at hacc ⊢; omega⟩, by simp only; omega, fun r hr => hr⟩
      · have ca' : decide (a < 0) = false := decide_eq_false ca
        rw [if_neg ca]
        obtain ⟨u, rfl⟩ : ∃ u : Nat, a = u := ⟨a.toNat, by omega⟩
        simp only [Int.toNat_natCast]
        cases acc with
        | nil =>
          have f1 : flatM (.row [[.int .i64 (u : Nat)]] 1 true) = true := flatN [u] 1 true
          simp (decide := true) (implicitDefEqProofs := false) only [Am.findLoop, Am.loopOf, Am.bodyOf, Am.firstReg, Nat.beq, cond_true, cond_false, Am.splice, Am.walkW, Am.stdW, id, reduceCtorEq, Nat.reduceAdd, Nat.reduceSub, Nat.reduceMul, List.forall_mem_cons, List.forall_mem_nil, false_implies, implies_true, Try.f17, factsOf17, h6, canonNx, accN, accNH, ca', hw, hwm, f1, appS_nil, List.replicate_succ, List.replicate_zero, buildSliceM, fillRow, appendF, appendH, src_lst, src_ref, elemsO_row, headOk_one, Nat.le_refl, matC_eq, keep17_4, Am.compactK, Am.idsT, Am.closeStep, Am.keepW, Am.kstdW]
          exact ⟨(i + 1, many, [u]), rfl, ⟨hlt, by simp only; omega, by simp at hacc ⊢; omega⟩, by simp only; omega, fun r hr => hr⟩
        | cons y acc =>
          have f1 := flatN (y :: acc) 1 true
          have f2 := flatN (y :: acc ++ [u]) 1 true
          have hap : ∀ H : List Mem, H[0]? = some (.row ((y :: acc).map encN) 1 true) → appendS H 1 8 (.ref 0 0 (acc.length + 1) (acc.length + 1)) [[.int .i64 u]] = some (.ref H.length 0 (acc.length + 1 + 1) (acc.length + 1 + 1), H.set 0 .dead ++ [.row ((y :: acc ++ [u]).map encN) 1 true]) := by
            intro H hH
            rw [List.map_append]
            exact appS_full hH (by simp) (by simp only [List.length_cons] at hacc; omega) _
          simp only [List.map_cons, List.cons_append] at f1 f2 hap
          simp (decide := true) (implicitDefEqProofs := false) only [Am.findLoop, Am.loopOf, Am.bodyOf, Am.firstReg, Nat.beq, cond_true, cond_false, Am.splice, Am.walkW, Am.stdW, id, reduceCtorEq, Nat.reduceAdd, Nat.reduceSub, Nat.reduceMul, List.forall_mem_cons, List.forall_mem_nil, false_implies, implies_true, Try.f17, factsOf17, h6, canonNx, accN, accNH, ca', hw, hwm, f1, f2, hap, List.replicate_succ, List.replicate_zero, buildSliceM, fillRow, appendF, appendH, src_lst, src_ref, elemsO_row, headOk_one, Nat.le_refl, matC_eq, keep17_4, Am.compactK, Am.idsT, Am.closeStep, Am.keepW, Am.kstdW]
          exact ⟨(i + 1, many, y :: acc ++ [u]), by simp only [accN, accNH, List.cons_append, List.length_append, List.length_cons, List.length_nil, List.map_cons], ⟨hlt, by simp only; omega, by simp only [List.length_append, List.length_cons, List.length_nil] at hacc ⊢; omega⟩, by simp only; omega, fun r hr => hr⟩
  · have hlt' : decide ((i : Int) < (n : Int)) = false := decide_eq_false (by omega)
    rw [show n - i = 0 by omega]
    cases acc with
    | nil =>
      simp (decide := true) (implicitDefEqProofs := false) only [Am.findLoop, Am.loopOf, Am.bodyOf, Am.firstReg, Nat.beq, cond_true, cond_false, Am.splice, Am.walkW, Am.stdW, id, reduceCtorEq, Nat.reduceAdd, Nat.reduceSub, Nat.reduceMul, List.forall_mem_cons, List.forall_mem_nil, false_implies, implies_true, Try.f17, factsOf17, canonNo, hlt']
      refine ⟨rfl, ?_⟩
      simp (decide := true) (implicitDefEqProofs := false) only [Am.findLoop, Am.loopOf, Am.bodyOf, Am.firstReg, Nat.beq, cond_true, cond_false, Am.splice, Am.walkW, Am.stdW, id, reduceCtorEq, Nat.reduceAdd, Nat.reduceSub, Nat.reduceMul, List.forall_mem_cons, List.forall_mem_nil, false_implies, implies_true, Try.f17, factsOf17, accN, accNH, numF, matC_eq, Am.compactK, Am.idsT, Am.closeStep, Am.keepW, Am.kstdW]
    | cons y acc =>
      have f1 := flatN (y :: acc) 1 true
      simp only [List.map_cons] at f1
      simp (decide := true) (implicitDefEqProofs := false) only [Am.findLoop, Am.loopOf, Am.bodyOf, Am.firstReg, Nat.beq, cond_true, cond_false, Am.splice, Am.walkW, Am.stdW, id, reduceCtorEq, Nat.reduceAdd, Nat.reduceSub, Nat.reduceMul, List.forall_mem_cons, List.forall_mem_nil, false_implies, implies_true, Try.f17, factsOf17, canonNo, hlt']
      refine ⟨rfl, ?_⟩
      simp (decide := true) (implicitDefEqProofs := false) only [Am.findLoop, Am.loopOf, Am.bodyOf, Am.firstReg, Nat.beq, cond_true, cond_false, Am.splice, Am.walkW, Am.stdW, id, reduceCtorEq, Nat.reduceAdd, Nat.reduceSub, Nat.reduceMul, List.forall_mem_cons, List.forall_mem_nil, false_implies, implies_true, Try.f17, factsOf17, accN, accNH, numF, f1, matC_eq, Am.compactK, Am.idsT, Am.closeStep, Am.keepW, Am.kstdW]
def numbersF (T : List (List Bool)) (n : Nat) : List Nat := numF T n 0 0 []
set_option maxHeartbeats 8000000 in
theorem numbers_call (n : Nat) (hn : n ≤ 24) (T : List (List Bool)) (hT : Sq n T) : pureCall hints L1 17 [matC T] = some (outN (numbersF T n)) := by
  refine pure_of prim17 (Holds.mono (Q := fun r => r = (accN 0 (numbersF T n), accNH (numbersF T n))) ?_ fun r hr => by rw [hr]; exact exp_accN _ 38)
  have hlen := fun H => len_lst (P := Try.prog) (H := H) slZ31 (T.map fun r => [.lst (r.map encT)])
  rw [List.length_map, hT.1, ← matC_eq] at hlen
  refine rn_rule (fn := Try.f17) (code := bodyOf Try.f17) ok17 Try.func17 (by kernel_rfl) (Nat.le_of_ble_eq_true (by kernel_rfl)) ?_
  simp (decide := true) (implicitDefEqProofs := false) only [Am.findLoop, Am.loopOf, Am.bodyOf, Am.firstReg, Nat.beq, cond_true, cond_false, Am.splice, Am.walkW, Am.stdW, id, reduceCtorEq, Nat.reduceAdd, Nat.reduceSub, Nat.reduceMul, List.forall_mem_cons, List.forall_mem_nil, false_implies, implies_true, Try.f17, factsOf17, hlen]
  simp only [holds_bind]
  refine (numbers_outer n hn T hT (0, 0, []) _ ⟨by simp only; omega, by simp only; omega, rfl⟩ ?_).mono ?_
  · show maskK (hints.keep 17 4) _ _ = _
    simp (decide := true) (implicitDefEqProofs := false) only [Am.findLoop, Am.loopOf, Am.bodyOf, Am.firstReg, Nat.beq, cond_true, cond_false, Am.splice, Am.walkW, Am.stdW, id, reduceCtorEq, Nat.reduceAdd, Nat.reduceSub, Nat.reduceMul, List.forall_mem_cons, List.forall_mem_nil, false_implies, implies_true, Try.f17, factsOf17, keep17_4, canonNo, accN, accNH, matC_eq, Am.compactK, Am.idsT, Am.closeStep, Am.keepW, Am.kstdW]
    rfl
  · rintro ⟨e, s'⟩ ⟨h5, h6⟩
    cases h5
    rw [keepB17_0] at h6
    simp only [Nat.sub_zero] at h6
    simp (decide := true) (implicitDefEqProofs := false) only [Am.findLoop, Am.loopOf, Am.bodyOf, Am.firstReg, Nat.beq, cond_true, cond_false, Am.splice, Am.walkW, Am.stdW, id, reduceCtorEq, Nat.reduceAdd, Nat.reduceSub, Nat.reduceMul, List.forall_mem_cons, List.forall_mem_nil, false_implies, implies_true, Try.f17, factsOf17, h6]
    rfl
end Go.Proofs.Ytcclbkkgpcpikaa

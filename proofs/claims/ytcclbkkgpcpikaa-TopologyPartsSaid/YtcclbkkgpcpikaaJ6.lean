import Derived.Test.YtcclbkkgpcpikaaJ5
set_option linter.unusedSimpArgs false
set_option linter.unusedVariables false
namespace Go.Proofs.Ytcclbkkgpcpikaa
open Go.Am
set_option maxRecDepth 100000
theorem outN_no (l : List Nat) : noIds (outN l) = true ∧ idsOf (outN l) = [] ∧ okIds (outN l) = true ∧ ∀ r, ren r (outN l) = outN l := by
  cases l <;> exact ⟨rfl, rfl, rfl, fun _ => rfl⟩
theorem topC_call (n : Net) (q0 q1 q2 q3 q4 q5 : PV) (hq : NetQ n q0 q1 q2 q3 q4 q5) (i : Nat) : pureCall hints L1 79 [.int .i64 i, .box [.int .i64 n.sw.length] 0, .box [q0, q1, q2, q3, q4, q5] 0] = some (.bool (usedT n i)) := by
  refine pure_of prim79 (Holds.mono (Q := fun r => r.1 = .bool (usedT n i)) ?_ fun r hr => by rw [hr]; rfl)
  by_cases hi : i < n.sw.length
  · have hix := fun H => index_sl (P := Try.prog) (H := H) hq.h1 slZ42 (k := .i64) (j := i) (by omega) (encSw_get hi) rfl
    have hu : usedT n i = !n.sw[i].opn := by
      unfold usedT usedC
      rw [List.getElem?_eq_getElem hi, decide_eq_false (by omega), Bool.false_or]
    rw [hu]
    have d1 : decide ((n.sw.length : Int) ≤ (i : Int)) = false := decide_eq_false (by omega)
    generalize n.sw[i] = x at hix
    simp only [encSw] at hix
    refine rn_rule (fn := Try.f79) (code := bodyOf Try.f79) ok79 Try.func79 (by kernel_rfl) (Nat.le_of_ble_eq_true (by kernel_rfl)) ?_
    simp (decide := true) (implicitDefEqProofs := false) only [Am.findLoop, Am.loopOf, Am.bodyOf, Am.firstReg, Nat.beq, cond_true, cond_false, Am.splice, Am.walkW, Am.stdW, id, reduceCtorEq, Nat.reduceAdd, Nat.reduceSub, Nat.reduceMul, List.forall_mem_cons, List.forall_mem_nil, false_implies, implies_true, Try.f79, factsOf79, hix, d1]
  · have hu : usedT n i = true := by unfold usedT; rw [decide_eq_true (by omega)]; rfl
    rw [hu]
    have d1 : decide ((n.sw.length : Int) ≤ (i : Int)) = true := decide_eq_true (by omega)
    refine rn_rule (fn := Try.f79) (code := bodyOf Try.f79) ok79 Try.func79 (by kernel_rfl) (Nat.le_of_ble_eq_true (by kernel_rfl)) ?_
    simp (decide := true) (implicitDefEqProofs := false) only [Am.findLoop, Am.loopOf, Am.bodyOf, Am.firstReg, Nat.beq, cond_true, cond_false, Am.splice, Am.walkW, Am.stdW, id, reduceCtorEq, Nat.reduceAdd, Nat.reduceSub, Nat.reduceMul, List.forall_mem_cons, List.forall_mem_nil, false_implies, implies_true, Try.f79, factsOf79, d1]
theorem clo_top (n : Net) (q0 q1 q2 q3 q4 q5 : PV) (hq : NetQ n q0 q1 q2 q3 q4 q5) : Clo 79 [.box [.int .i64 n.sw.length] 0, .box [q0, q1, q2, q3, q4, q5] 0] (usedT n) (allL n).length :=
  ⟨opn79, imp79, mem79, rfl, rfl, fun H => rfl, fun H => rfl, fun H => rfl, fun j _ => topC_call n q0 q1 q2 q3 q4 q5 hq j⟩
def pT : List (Nat × Nat) → Nat
  | [] => 2
  | _ :: _ => 3
noncomputable def canonT5 (q0 q1 q2 q3 q4 q5 : PV) (b : List Nat) (m len i : Nat) (acc : List (Nat × Nat)) : St :=
  ⟨[(1, .ptr 0 0 0), (2, .ptr 1 0 0), (3, outN b), (4, accG 2 acc), (5, .ptr (pT acc) 0 0), (20, q2), (21, .int .i64 len), (22, .int .i64 i)], rowN q0 q1 q2 q3 q4 q5 :: .row [[.nils, .nils]] 2 true :: (accGH enc2N 2 acc ++ [.row [[.int .i64 m]] 1 true])⟩
def postT5 (q0 q1 q2 q3 q4 q5 : PV) (b : List Nat) (m : Nat) (full : List (Nat × Nat)) (r : Ex × St) : Prop := r.1 = .exit 0 ∧ maskK (hints.keepB 31 0) ⟨31, 0, 70⟩ r.2 = some ⟨[(1, .ptr 0 0 0), (2, .ptr 1 0 0), (3, outN b), (4, accG 2 full), (5, .ptr (pT full) 0 0)], rowN q0 q1 q2 q3 q4 q5 :: .row [[.nils, .nils]] 2 true :: (accGH enc2N 2 full ++ [.row [[.int .i64 m]] 1 true])⟩
set_option maxHeartbeats 8000000 in
theorem rtop_br (n : Net) (q0 q1 q2 q3 q4 q5 : PV) (hq : NetQ n q0 q1 q2 q3 q4 q5) (hv : VNet n) (b : List Nat) (m : Nat) : ∀ (a : Nat × List (Nat × Nat)) (t : St), (a.1 ≤ n.br.length ∧ a.2.length ≤ 100 + a.1) →
    maskK (hints.keep 31 (firstReg (loopOf Try.f31 5))) ⟨31, 0, 70⟩ t = some (canonT5 q0 q1 q2 q3 q4 q5 b m n.br.length a.1 a.2) →
    Holds (L1.ex ⟨31, 0, 70⟩ (.loop (loopOf Try.f31 5)) t) (postT5 q0 q1 q2 q3 q4 q5 b m (a.2 ++ (n.br.drop a.1).map fun x => (plN n x.fr, plN n x.to))) := by
  refine loop_rule (σ := Nat × List (Nat × Nat)) (c := ⟨31, 0, 70⟩) (b := loopOf Try.f31 5) (fun a => canonT5 q0 q1 q2 q3 q4 q5 b m n.br.length a.1 a.2) (fun a => a.1 ≤ n.br.length ∧ a.2.length ≤ 100 + a.1) (fun a => n.br.length - a.1) _ ?_
  rintro ⟨i, acc⟩ ⟨hi, hacc⟩
  simp only at hi hacc
  have hlb := hv.lb
  have fN := hq.no
  unfold rowN at fN
  have f2 : flatM (.row [[PV.nils, .nils]] 2 true) = true := rfl
  have f3 : flatM (.row [[PV.int .i64 (m : Nat)]] 1 true) = true := rfl
  obtain ⟨b1, b2, b3, b4, b5, b6, b7⟩ := hq.h2.ids
  obtain ⟨o1, o2, o3, o4⟩ := outN_no b
  have n0e := fun H => hq.h0.plain.exp (H := H)
  have n0r := fun H => hq.h0.rch (H := H)
  by_cases hlt : i < n.br.length
  · have hix := fun H => index_sl (P := Try.prog) (H := H) hq.h2 slZ43 (k := .i64) (j := i) (by omega) (encB_get hlt) rfl
    have hlt' : decide ((i : Int) < n.br.length) = true := decide_eq_true (by omega)
    have hw : IntKind.i64.wrap ((i : Int) + 1) = ((i + 1 : Nat) : Int) := wrap64 (by omega) (by omega)
    have hmem := hv.br _ (List.getElem_mem hlt)
    have hdr : (n.br.drop i).map (fun x => (plN n x.fr, plN n x.to)) = (plN n n.br[i].fr, plN n n.br[i].to) :: (n.br.drop (i + 1)).map (fun x => (plN n x.fr, plN n x.to)) := by rw [List.drop_eq_getElem_cons hlt]; rfl
    rw [hdr]
    generalize n.br[i] = x at hix hmem
    simp only [encB] at hix
    have hln : n.nodes.length ≤ maxLen := by have := hv.ln; unfold maxLen; omega
    have pa := place_call q0 n.nodes hq.h0 x.fr hln
    have pb := place_call q0 n.nodes hq.h0 x.to hln
    rw [(plN_ok hmem.1).1] at pa
    rw [(plN_ok hmem.2).1] at pb
    generalize plN n x.fr = u at pa
    generalize plN n x.to = v at pb
    have bA := fun ps => build_array (P := Try.prog) arrOf29 ps
    cases acc with
    | nil =>
      have f1 : flatM (.row [[.int .i64 (u : Nat), .int .i64 (v : Nat)]] 2 true) = true := flatG enc2N_no [(u, v)] 2 true
      simp (decide := true) (implicitDefEqProofs := false) only [Am.findLoop, Am.loopOf, Am.bodyOf, Am.firstReg, Nat.beq, cond_true, cond_false, Am.splice, Am.walkW, Am.stdW, id, reduceCtorEq, Nat.reduceAdd, Nat.reduceSub, Nat.reduceMul, List.forall_mem_cons, List.forall_mem_nil, false_implies, implies_true, Try.f31, factsOf31, canonT5, rowN, accG, accGH, pT, hix, hlt', hw, pa, pb, n0e, n0r, bA, fillAgg, fN, f1, f2, f3, o2, o3, o4, appS_nil, List.replicate_succ, List.replicate_zero, buildSliceM, fillRow, appendF, appendH, src_lst, src_ref, elemsO_row, headOk_one, Nat.le_refl, keep31_5, b1, b2, b3, b4, b5, b6, b7, Am.compactK, Am.idsT, Am.closeStep, Am.keepW, Am.kstdW]
      exact ⟨(i + 1, [(u, v)]), rfl, ⟨hlt, by simp only [List.length_cons, List.length_nil]; omega⟩, by simp only; omega, fun r hr => hr⟩
    | cons y acc =>
      have f1 := flatG enc2N_no (y :: acc) 2 true
      have f4 := flatG enc2N_no (y :: acc ++ [(u, v)]) 2 true
      have hap : ∀ H : List Mem, H[2]? = some (.row ((y :: acc).map enc2N) 2 true) → appendS H 2 16 (.ref 2 0 (acc.length + 1) (acc.length + 1)) [[.int .i64 (u : Nat), .int .i64 (v : Nat)]] = some (.ref H.length 0 (acc.length + 1 + 1) (acc.length + 1 + 1), H.set 2 .dead ++ [.row ((y :: acc ++ [(u, v)]).map enc2N) 2 true]) := by
        intro H hH
        rw [List.map_append]
        exact appS_full hH (by simp) (by simp only [List.length_cons] at hacc; omega) _
      simp only [List.map_cons, List.cons_append] at f1 f4 hap
      have hnx : ∀ r, postT5 q0 q1 q2 q3 q4 q5 b m (y :: acc ++ [(u, v)] ++ (n.br.drop (i + 1)).map (fun x => (plN n x.fr, plN n x.to))) r → postT5 q0 q1 q2 q3 q4 q5 b m (y :: (acc ++ (u, v) :: (n.br.drop (i + 1)).map (fun x => (plN n x.fr, plN n x.to)))) r := fun r hr => by simpa using hr
      simp (decide := true) (implicitDefEqProofs := false) only [Am.findLoop, Am.loopOf, Am.bodyOf, Am.firstReg, Nat.beq, cond_true, cond_false, Am.splice, Am.walkW, Am.stdW, id, reduceCtorEq, Nat.reduceAdd, Nat.reduceSub, Nat.reduceMul, List.forall_mem_cons, List.forall_mem_nil, false_implies, implies_true, Try.f31, factsOf31, canonT5, rowN, accG, accGH, pT, hix, hlt', hw, pa, pb, n0e, n0r, bA, fillAgg, fN, f1, f2, f3, f4, o2, o3, o4, hap, List.replicate_succ, List.replicate_zero, buildSliceM, fillRow, appendF, appendH, src_lst, src_ref, elemsO_row, headOk_one, Nat.le_refl, keep31_5, b1, b2, b3, b4, b5, b6, b7, Am.compactK, Am.idsT, Am.closeStep, Am.keepW, Am.kstdW]
      exact ⟨(i + 1, y :: acc ++ [(u, v)]), by simp only [accG, accGH, pT, List.cons_append, List.nil_append, List.length_append, List.length_cons, List.length_nil, List.map_cons], ⟨hlt, by simp only [List.length_cons, List.length_append, List.length_nil] at hacc ⊢; omega⟩, by simp only; omega, hnx⟩
  · have hlt' : decide ((i : Int) < n.br.length) = false := decide_eq_false (by omega)
    rw [List.drop_eq_nil_of_le (by omega), List.map_nil, List.append_nil]
    cases acc with
    | nil =>
      simp (decide := true) (implicitDefEqProofs := false) only [Am.findLoop, Am.loopOf, Am.bodyOf, Am.firstReg, Nat.beq, cond_true, cond_false, Am.splice, Am.walkW, Am.stdW, id, reduceCtorEq, Nat.reduceAdd, Nat.reduceSub, Nat.reduceMul, List.forall_mem_cons, List.forall_mem_nil, false_implies, implies_true, Try.f31, factsOf31, canonT5, rowN, accG, accGH, pT, hlt', b7]
      refine ⟨rfl, ?_⟩
      simp (decide := true) (implicitDefEqProofs := false) only [Am.findLoop, Am.loopOf, Am.bodyOf, Am.firstReg, Nat.beq, cond_true, cond_false, Am.splice, Am.walkW, Am.stdW, id, reduceCtorEq, Nat.reduceAdd, Nat.reduceSub, Nat.reduceMul, List.forall_mem_cons, List.forall_mem_nil, false_implies, implies_true, Try.f31, factsOf31, rowN, accG, accGH, pT, fN, f2, f3, o2, o3, o4, b1, b2, b3, b7, Am.compactK, Am.idsT, Am.closeStep, Am.keepW, Am.kstdW]
    | cons y acc =>
      have f1 := flatG enc2N_no (y :: acc) 2 true
      simp only [List.map_cons] at f1
      simp (decide := true) (implicitDefEqProofs := false) only [Am.findLoop, Am.loopOf, Am.bodyOf, Am.firstReg, Nat.beq, cond_true, cond_false, Am.splice, Am.walkW, Am.stdW, id, reduceCtorEq, Nat.reduceAdd, Nat.reduceSub, Nat.reduceMul, List.forall_mem_cons, List.forall_mem_nil, false_implies, implies_true, Try.f31, factsOf31, canonT5, rowN, accG, accGH, pT, hlt', b7]
      refine ⟨rfl, ?_⟩
      simp (decide := true) (implicitDefEqProofs := false) only [Am.findLoop, Am.loopOf, Am.bodyOf, Am.firstReg, Nat.beq, cond_true, cond_false, Am.splice, Am.walkW, Am.stdW, id, reduceCtorEq, Nat.reduceAdd, Nat.reduceSub, Nat.reduceMul, List.forall_mem_cons, List.forall_mem_nil, false_implies, implies_true, Try.f31, factsOf31, rowN, accG, accGH, pT, fN, f1, f2, f3, o2, o3, o4, b1, b2, b3, b7, Am.compactK, Am.idsT, Am.closeStep, Am.keepW, Am.kstdW]
/-! the islands of the buses -/
def fillI (b part : List Nat) : Nat → Nat → List Nat → List Nat
  | 0, _, s => s
  | c + 1, i, s => fillI b part c (i + 1) (s.set (b.getD i 0) (part.getD i 0))
theorem fillI_len (b part : List Nat) : ∀ (c i : Nat) (s : List Nat), (fillI b part c i s).length = s.length
  | 0, _, _ => rfl
  | c + 1, i, s => by rw [fillI, fillI_len b part c, List.length_set]
theorem fillI_get {b part : List Nat} {g : Nat → Nat} {N m : Nat} (hb : ∀ i, i < N → b.getD i 0 < m) (hg : ∀ i, i < N → part.getD i 0 = g (b.getD i 0)) : ∀ (c i : Nat) (s : List Nat), i + c = N → s.length = m → ∀ x, x < m → ((∃ k, i ≤ k ∧ k < N ∧ b.getD k 0 = x) ∨ s.getD x 0 = g x) → (fillI b part c i s).getD x 0 = g x
  | 0, i, s, hc, hs, x, hx, h => by
    rw [fillI]
    rcases h with ⟨k, h1, h2, _⟩ | h
    · omega
    · exact h
  | c + 1, i, s, hc, hs, x, hx, h => by
    rw [fillI]
    refine fillI_get hb hg c (i + 1) _ (by omega) (by rw [List.length_set]; exact hs) x hx ?_
    have hset : (s.set (b.getD i 0) (part.getD i 0)).getD x 0 = if b.getD i 0 = x then part.getD i 0 else s.getD x 0 := by
      rw [List.getD_eq_getElem?_getD, List.getElem?_set]
      split
      · rw [if_pos (by rw [hs]; exact hb i (by omega))]; rfl
      · rw [← List.getD_eq_getElem?_getD]
    by_cases e : b.getD i 0 = x
    · right
      rw [hset, if_pos e, hg i (by omega), e]
    · rcases h with ⟨k, h1, h2, h3⟩ | h
      · left
        refine ⟨k, ?_, h2, h3⟩
        have : k ≠ i := by rintro rfl; exact e h3
        omega
      · right; rw [hset, if_neg e]; exact h
theorem fillI_eq {n : Net} (hv : VNet n) : fillI (busF n) (partF n) n.nodes.length 0 (List.replicate (manyF n) 0) = isleF n := by
  apply List.ext_getElem?
  intro x
  have hl := fillI_len (busF n) (partF n) n.nodes.length 0 (List.replicate (manyF n) 0)
  rw [List.length_replicate] at hl
  have hl2 := (isle_num hv).1
  by_cases hx : x < manyF n
  · have := fillI_get (g := fun x => (isleF n).getD x 0) (fun i hi => bus_lt hv hi) (fun i hi => (isle_part hv hi).symm) n.nodes.length 0 (List.replicate (manyF n) 0) (by omega) (by simp) x hx (.inl (by
      obtain ⟨i, h1, h2⟩ := bus_hit hv hx
      exact ⟨i, by omega, h1, h2⟩))
    rw [List.getD_eq_getElem?_getD, List.getD_eq_getElem?_getD, List.getElem?_eq_getElem (by omega), List.getElem?_eq_getElem (by omega)] at this
    rw [List.getElem?_eq_getElem (by omega), List.getElem?_eq_getElem (by omega)]
    simpa using this
  · rw [List.getElem?_eq_none (by omega), List.getElem?_eq_none (by omega)]
noncomputable def canonT13 (b part : List Nat) (m len i : Nat) (s : List Nat) : St := ⟨[(2, .ptr 0 0 0), (3, outN b), (9, outN part), (10, .ref 1 0 m m), (52, outN b), (53, .int .i64 len), (54, .int .i64 i)], [.row [[.nils, .nils]] 2 true, .row (s.map encN) 1 true]⟩
def postT13 (b : List Nat) (m : Nat) (s : List Nat) (r : Ex × St) : Prop := r.1 = .exit 2 ∧ maskK (hints.keepB 31 2) ⟨31, 0, 70⟩ r.2 = some ⟨[(2, .ptr 0 0 0), (3, outN b), (10, .ref 1 0 m m)], [.row [[.nils, .nils]] 2 true, .row (s.map encN) 1 true]⟩
set_option maxHeartbeats 8000000 in
theorem rtop_fill (b part : List Nat) (m N : Nat) (hN : N ≤ 24) (hbl : b.length = N) (hpl : part.length = N) (hb : ∀ i, i < N → b.getD i 0 < m) : ∀ (a : Nat × List Nat) (t : St), (a.1 ≤ N ∧ a.2.length = m) →
    maskK (hints.keep 31 (firstReg (loopOf Try.f31 13))) ⟨31, 0, 70⟩ t = some (canonT13 b part m N a.1 a.2) →
    Holds (L1.ex ⟨31, 0, 70⟩ (.loop (loopOf Try.f31 13)) t) (postT13 b m (fillI b part (N - a.1) a.1 a.2)) := by
  refine loop_rule (σ := Nat × List Nat) (c := ⟨31, 0, 70⟩) (b := loopOf Try.f31 13) (fun a => canonT13 b part m N a.1 a.2) (fun a => a.1 ≤ N ∧ a.2.length = m) (fun a => N - a.1) _ ?_
  rintro ⟨i, s⟩ ⟨hi, hs⟩
  simp only at hi hs
  have f1 := flatN s 1 true
  have f2 : flatM (.row [[PV.nils, .nils]] 2 true) = true := rfl
  obtain ⟨o1, o2, o3, o4⟩ := outN_no b
  obtain ⟨p1, p2, p3, p4⟩ := outN_no part
  by_cases hlt : i < N
  · have hib := fun H => index_sl (P := Try.prog) (H := H) (outN_sl' b) slZ24 (k := .i64) (j := i) (by omega) (by rw [Int.toNat_natCast]; exact getN (by omega : i < b.length)) rfl
    have hip := fun H => index_sl (P := Try.prog) (H := H) (outN_sl' part) slZ24 (k := .i64) (j := i) (by omega) (by rw [Int.toNat_natCast]; exact getN (by omega : i < part.length)) rfl
    have hlt' : decide ((i : Int) < (N : Int)) = true := decide_eq_true (by omega)
    have hw : IntKind.i64.wrap ((i : Int) + 1) = ((i + 1 : Nat) : Int) := wrap64 (by omega) (by omega)
    have hbi := hb i hlt
    have hdr : fillI b part (N - i) i s = fillI b part (N - (i + 1)) (i + 1) (s.set (b.getD i 0) (part.getD i 0)) := by
      obtain ⟨c, hc⟩ : ∃ c, N - i = c + 1 := ⟨N - i - 1, by omega⟩
      rw [hc, show N - (i + 1) = c by omega, fillI]
    rw [hdr]
    rw [List.getD_eq_getElem?_getD, List.getElem?_eq_getElem (by omega)] at hbi
    rw [show b.getD i 0 = b[i]'(by omega) by rw [List.getD_eq_getElem?_getD, List.getElem?_eq_getElem (by omega)]; rfl, show part.getD i 0 = part[i]'(by omega) by rw [List.getD_eq_getElem?_getD, List.getElem?_eq_getElem (by omega)]; rfl]
    simp only [Option.getD_some] at hbi
    generalize b[i]'(by omega) = x at hib hbi
    generalize part[i]'(by omega) = y at hip
    have hxm : (x : Int) < (m : Int) := by omega
    have hgs := getN (l := s) (i := x) (by omega)
    have f3 := flatN (s.set x y) 1 true
    have hsN : ∀ (l : List Nat) (i x : Nat), (l.map encN).set i [.int .i64 x] = (l.set i x).map encN := fun l i x => by rw [List.map_set]; rfl
    simp (decide := true) (implicitDefEqProofs := false) only [Am.findLoop, Am.loopOf, Am.bodyOf, Am.firstReg, Nat.beq, cond_true, cond_false, Am.splice, Am.walkW, Am.stdW, id, reduceCtorEq, Nat.reduceAdd, Nat.reduceSub, Nat.reduceMul, List.forall_mem_cons, List.forall_mem_nil, false_implies, implies_true, Try.f31, factsOf31, canonT13, hib, hip, hlt', hw, hxm, hgs, hsN, f1, f2, f3, o2, o3, o4, p2, p3, p4, keep31_13, Am.compactK, Am.idsT, Am.closeStep, Am.keepW, Am.kstdW]
    exact ⟨(i + 1, s.set x y), rfl, ⟨hlt, by simpa using hs⟩, by simp only; omega, fun r hr => hr⟩
  · have hlt' : decide ((i : Int) < (N : Int)) = false := decide_eq_false (by omega)
    rw [show N - i = 0 by omega]
    simp (decide := true) (implicitDefEqProofs := false) only [Am.findLoop, Am.loopOf, Am.bodyOf, Am.firstReg, Nat.beq, cond_true, cond_false, Am.splice, Am.walkW, Am.stdW, id, reduceCtorEq, Nat.reduceAdd, Nat.reduceSub, Nat.reduceMul, List.forall_mem_cons, List.forall_mem_nil, false_implies, implies_true, Try.f31, factsOf31, canonT13, hlt']
    refine ⟨rfl, ?_⟩
    simp (decide := true) (implicitDefEqProofs := false) only [Am.findLoop, Am.loopOf, Am.bodyOf, Am.firstReg, Nat.beq, cond_true, cond_false, Am.splice, Am.walkW, Am.stdW, id, reduceCtorEq, Nat.reduceAdd, Nat.reduceSub, Nat.reduceMul, List.forall_mem_cons, List.forall_mem_nil, false_implies, implies_true, Try.f31, factsOf31, fillI, f1, f2, o2, o3, o4, p2, p3, p4, Am.compactK, Am.idsT, Am.closeStep, Am.keepW, Am.kstdW]
end Go.Proofs.Ytcclbkkgpcpikaa

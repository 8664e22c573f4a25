import Derived.Test.YtcclbkkgpcpikaaJ4
set_option linter.unusedSimpArgs false
set_option linter.unusedVariables false
namespace Go.Proofs.Ytcclbkkgpcpikaa
open Go.Am
set_option maxRecDepth 100000
theorem max_two {P : Program} {H : List Mem} (ts : Array TypeId) (k : IntKind) (a b : Int) : builtinR P H .max ts [.int k a, .int k b] = some (.int k (if b > a then b else a)) := by
  simp [builtinR, ofold, max2]
theorem encI_N (l : List Nat) : (l.map Int.ofNat).map encI = l.map encN := by rw [List.map_map]; rfl
theorem sbuses_N (n : Net) (q0 q1 q2 q3 q4 q5 : PV) (hq : NetQ n q0 q1 q2 q3 q4 q5) (hv : VNet n) : pureCall hints L1 83 [.agg [q0, q1, q2, q3, q4, q5]] = some (.lst ((busF n).map encN)) := by
  rw [sbuses_call n q0 q1 q2 q3 q4 q5 hq hv, bus_eq hv, encI_N]
noncomputable def canonG4 (q0 q1 q2 q3 q4 q5 bus : PV) (len m i : Nat) : St := ⟨[(1, .ptr 0 0 0), (2, .ptr 1 0 0), (3, .ptr 2 0 0), (4, .int .i64 m), (14, bus), (15, .int .i64 len), (16, .int .i64 i)], [rowN q0 q1 q2 q3 q4 q5, .row [[.nils, .nils]] 2 true, .row [[bus, .nils]] 2 true]⟩
def postG4 (q0 q1 q2 q3 q4 q5 bus : PV) (m : Nat) (r : Ex × St) : Prop := r.1 = .exit 0 ∧ maskK (hints.keepB 76 0) ⟨76, 0, 63⟩ r.2 = some ⟨[(1, .ptr 0 0 0), (2, .ptr 1 0 0), (3, .ptr 2 0 0), (4, .int .i64 m)], [rowN q0 q1 q2 q3 q4 q5, .row [[.nils, .nils]] 2 true, .row [[bus, .nils]] 2 true]⟩
set_option maxHeartbeats 4000000 in
theorem get_most (n : Net) (q0 q1 q2 q3 q4 q5 : PV) (hq : NetQ n q0 q1 q2 q3 q4 q5) (B : List Nat) (hl : B.length ≤ 100) (hb : ∀ x ∈ B, x ≤ 1000) : ∀ (a : Nat × Nat) (t : St), (a.1 ≤ B.length ∧ a.2 ≤ 2000) →
    maskK (hints.keep 76 (firstReg (loopOf Try.f76 4))) ⟨76, 0, 63⟩ t = some (canonG4 q0 q1 q2 q3 q4 q5 (.lst (B.map encN)) B.length a.2 a.1) →
    Holds (L1.ex ⟨76, 0, 63⟩ (.loop (loopOf Try.f76 4)) t) (postG4 q0 q1 q2 q3 q4 q5 (.lst (B.map encN)) (mostF a.2 (B.drop a.1))) := by
  refine loop_rule (σ := Nat × Nat) (c := ⟨76, 0, 63⟩) (b := loopOf Try.f76 4) (fun a => canonG4 q0 q1 q2 q3 q4 q5 (.lst (B.map encN)) B.length a.2 a.1) (fun a => a.1 ≤ B.length ∧ a.2 ≤ 2000) (fun a => B.length - a.1) _ ?_
  rintro ⟨i, m⟩ ⟨hi, hm⟩
  simp only at hi hm
  have fN := hq.no
  unfold rowN at fN
  have f2 : flatM (.row [[PV.nils, .nils]] 2 true) = true := rfl
  have f3 : flatM (.row [[PV.lst (B.map encN), .nils]] 2 true) = true := rfl
  by_cases hlt : i < B.length
  · have hix := fun H => index_sl (P := Try.prog) (H := H) (.inr rfl : Sl (.lst (B.map encN)) _) slZ24 (k := .i64) (j := i) (by omega) (by rw [Int.toNat_natCast]; exact getN hlt) rfl
    have hlt' : decide ((i : Int) < B.length) = true := decide_eq_true (by omega)
    have hw : IntKind.i64.wrap ((i : Int) + 1) = ((i + 1 : Nat) : Int) := wrap64 (by omega) (by omega)
    have hxb := hb _ (List.getElem_mem hlt)
    have hdr : mostF m (B.drop i) = mostF (if m ≤ B[i] then B[i] + 1 else m) (B.drop (i + 1)) := by rw [List.drop_eq_getElem_cons hlt, mostF]
    rw [hdr]
    generalize B[i] = x at hix hxb
    have hwx : IntKind.i64.wrap ((x : Int) + 1) = ((x + 1 : Nat) : Int) := wrap64 (by omega) (by omega)
    have hmx : (if ((x + 1 : Nat) : Int) > (m : Int) then ((x + 1 : Nat) : Int) else (m : Int)) = (((if m ≤ x then x + 1 else m) : Nat) : Int) := by split <;> split <;> omega
    have hmb : (if m ≤ x then x + 1 else m) ≤ 2000 := by split <;> omega
    generalize (if m ≤ x then x + 1 else m) = m' at hmx hmb
    simp (decide := true) (implicitDefEqProofs := false) only [Am.findLoop, Am.loopOf, Am.bodyOf, Am.firstReg, Nat.beq, cond_true, cond_false, Am.splice, Am.walkW, Am.stdW, id, reduceCtorEq, Nat.reduceAdd, Nat.reduceSub, Nat.reduceMul, List.forall_mem_cons, List.forall_mem_nil, false_implies, implies_true, Try.f76, factsOf76, canonG4, rowN, hix, hlt', hw, hwx, hmx, max_two, fN, f2, f3, keep76_4, Am.compactK, Am.idsT, Am.closeStep, Am.keepW, Am.kstdW]
    exact ⟨(i + 1, m'), rfl, ⟨hlt, hmb⟩, by simp only; omega, fun r hr => hr⟩
  · have hlt' : decide ((i : Int) < B.length) = false := decide_eq_false (by omega)
    rw [List.drop_eq_nil_of_le (by omega)]
    simp (decide := true) (implicitDefEqProofs := false) only [Am.findLoop, Am.loopOf, Am.bodyOf, Am.firstReg, Nat.beq, cond_true, cond_false, Am.splice, Am.walkW, Am.stdW, id, reduceCtorEq, Nat.reduceAdd, Nat.reduceSub, Nat.reduceMul, List.forall_mem_cons, List.forall_mem_nil, false_implies, implies_true, Try.f76, factsOf76, canonG4, rowN, hlt']
    refine ⟨rfl, ?_⟩
    simp (decide := true) (implicitDefEqProofs := false) only [Am.findLoop, Am.loopOf, Am.bodyOf, Am.firstReg, Nat.beq, cond_true, cond_false, Am.splice, Am.walkW, Am.stdW, id, reduceCtorEq, Nat.reduceAdd, Nat.reduceSub, Nat.reduceMul, List.forall_mem_cons, List.forall_mem_nil, false_implies, implies_true, Try.f76, factsOf76, mostF, rowN, fN, f2, f3, Am.compactK, Am.idsT, Am.closeStep, Am.keepW, Am.kstdW]
noncomputable def canonG10 (q0 q1 q2 q3 q4 q5 bus : PV) (m len i : Nat) (acc : List (Nat × Nat)) : St := ⟨[(1, .ptr 0 0 0), (2, .ptr 1 0 0), (3, .ptr 2 0 0), (4, .int .i64 m), (7, accG 3 acc), (26, q2), (27, .int .i64 len), (28, .int .i64 i)], rowN q0 q1 q2 q3 q4 q5 :: .row [[.nils, .nils]] 2 true :: .row [[bus, .nils]] 2 true :: accGH enc2N 2 acc⟩
def postG10 (bus : PV) (m : Nat) (full : List (Nat × Nat)) (r : Ex × St) : Prop := r.1 = .exit 2 ∧ maskK (hints.keepB 76 2) ⟨76, 0, 63⟩ r.2 = some ⟨[(2, .ptr 0 0 0), (3, .ptr 1 0 0), (4, .int .i64 m), (7, accG 2 full)], .row [[.nils, .nils]] 2 true :: .row [[bus, .nils]] 2 true :: accGH enc2N 2 full⟩
set_option maxHeartbeats 8000000 in
theorem get_br (n : Net) (q0 q1 q2 q3 q4 q5 : PV) (hq : NetQ n q0 q1 q2 q3 q4 q5) (hv : VNet n) (m : Nat) : ∀ (a : Nat × List (Nat × Nat)) (t : St), (a.1 ≤ n.br.length ∧ a.2.length ≤ a.1) →
    maskK (hints.keep 76 (firstReg (loopOf Try.f76 10))) ⟨76, 0, 63⟩ t = some (canonG10 q0 q1 q2 q3 q4 q5 (.lst ((busF n).map encN)) m n.br.length a.1 a.2) →
    Holds (L1.ex ⟨76, 0, 63⟩ (.loop (loopOf Try.f76 10)) t) (postG10 (.lst ((busF n).map encN)) m (a.2 ++ (n.br.drop a.1).map fun x => (bAt n x.fr, bAt n x.to))) := by
  refine loop_rule (σ := Nat × List (Nat × Nat)) (c := ⟨76, 0, 63⟩) (b := loopOf Try.f76 10) (fun a => canonG10 q0 q1 q2 q3 q4 q5 (.lst ((busF n).map encN)) m n.br.length a.1 a.2) (fun a => a.1 ≤ n.br.length ∧ a.2.length ≤ a.1) (fun a => n.br.length - a.1) _ ?_
  rintro ⟨i, acc⟩ ⟨hi, hacc⟩
  simp only at hi hacc
  have hlb := hv.lb
  have fN := hq.no
  unfold rowN at fN
  have f2 : flatM (.row [[PV.nils, .nils]] 2 true) = true := rfl
  have f3 : flatM (.row [[PV.lst ((busF n).map encN), .nils]] 2 true) = true := rfl
  obtain ⟨b1, b2, b3, b4, b5, b6, b7⟩ := hq.h2.ids
  have n0e := fun H => hq.h0.plain.exp (H := H)
  have n0r := fun H => hq.h0.rch (H := H)
  by_cases hlt : i < n.br.length
  · have hix := fun H => index_sl (P := Try.prog) (H := H) hq.h2 slZ43 (k := .i64) (j := i) (by omega) (encB_get hlt) rfl
    have hlt' : decide ((i : Int) < n.br.length) = true := decide_eq_true (by omega)
    have hw : IntKind.i64.wrap ((i : Int) + 1) = ((i + 1 : Nat) : Int) := wrap64 (by omega) (by omega)
    have hmem := hv.br _ (List.getElem_mem hlt)
    have hdr : (n.br.drop i).map (fun x => (bAt n x.fr, bAt n x.to)) = (bAt n n.br[i].fr, bAt n n.br[i].to) :: (n.br.drop (i + 1)).map (fun x => (bAt n x.fr, bAt n x.to)) := by rw [List.drop_eq_getElem_cons hlt]; rfl
    rw [hdr]
    generalize n.br[i] = x at hix hmem
    simp only [encB] at hix
    have hln : n.nodes.length ≤ maxLen := by have := hv.ln; unfold maxLen; omega
    have pa := index_call q0 n.nodes hq.h0 x.fr hln
    have pb := index_call q0 n.nodes hq.h0 x.to hln
    rw [(plN_ok hmem.1).1] at pa
    rw [(plN_ok hmem.2).1] at pb
    have hBl := (bus_num hv).1
    have bat : ∀ s, memS s n.nodes = true → ∀ H, indexAddrPV Try.prog H 24 (.lst ((busF n).map encN)) (.int .i64 (plN n s : Nat)) = some (.box [.int .i64 (bAt n s : Nat)] 0) := by
      intro s hs H
      have hp := (plN_ok hs).2
      have e : bAt n s = (busF n)[plN n s]'(by omega) := by unfold bAt; rw [List.getD_eq_getElem?_getD, List.getElem?_eq_getElem (by omega)]; rfl
      rw [e]
      exact index_sl (.inr rfl : Sl (.lst ((busF n).map encN)) _) slZ24 (by omega) (by rw [Int.toNat_natCast]; exact getN (by omega)) rfl
    have ia := bat x.fr hmem.1
    have ib := bat x.to hmem.2
    clear bat
    generalize bAt n x.fr = u at ia
    generalize bAt n x.to = v at ib
    generalize plN n x.fr = u' at pa ia
    generalize plN n x.to = v' at pb ib
    have bA := fun ps => build_array (P := Try.prog) arrOf29 ps
    cases acc with
    | nil =>
      have f1 : flatM (.row [[.int .i64 (u : Nat), .int .i64 (v : Nat)]] 2 true) = true := flatG enc2N_no [(u, v)] 2 true
      simp (decide := true) (implicitDefEqProofs := false) only [Am.findLoop, Am.loopOf, Am.bodyOf, Am.firstReg, Nat.beq, cond_true, cond_false, Am.splice, Am.walkW, Am.stdW, id, reduceCtorEq, Nat.reduceAdd, Nat.reduceSub, Nat.reduceMul, List.forall_mem_cons, List.forall_mem_nil, false_implies, implies_true, Try.f76, factsOf76, canonG10, rowN, accG, accGH, hix, hlt', hw, pa, pb, ia, ib, n0e, n0r, bA, fillAgg, fN, f1, f2, f3, appS_nil, List.replicate_succ, List.replicate_zero, buildSliceM, fillRow, appendF, appendH, src_lst, src_ref, elemsO_row, headOk_one, Nat.le_refl, keep76_10, b1, b2, b3, b4, b5, b6, b7, Am.compactK, Am.idsT, Am.closeStep, Am.keepW, Am.kstdW]
      exact ⟨(i + 1, [(u, v)]), rfl, ⟨hlt, by simp⟩, by simp only; omega, fun r hr => hr⟩
    | cons y acc =>
      have f1 := flatG enc2N_no (y :: acc) 2 true
      have f4 := flatG enc2N_no (y :: acc ++ [(u, v)]) 2 true
      have hap : ∀ H : List Mem, H[3]? = some (.row ((y :: acc).map enc2N) 2 true) → appendS H 2 16 (.ref 3 0 (acc.length + 1) (acc.length + 1)) [[.int .i64 (u : Nat), .int .i64 (v : Nat)]] = some (.ref H.length 0 (acc.length + 1 + 1) (acc.length + 1 + 1), H.set 3 .dead ++ [.row ((y :: acc ++ [(u, v)]).map enc2N) 2 true]) := by
        intro H hH
        rw [List.map_append]
        exact appS_full hH (by simp) (by simp only [List.length_cons] at hacc; omega) _
      simp only [List.map_cons, List.cons_append] at f1 f4 hap
      have hnx : ∀ r, postG10 (.lst ((busF n).map encN)) m (y :: acc ++ [(u, v)] ++ (n.br.drop (i + 1)).map (fun x => (bAt n x.fr, bAt n x.to))) r → postG10 (.lst ((busF n).map encN)) m (y :: (acc ++ (u, v) :: (n.br.drop (i + 1)).map (fun x => (bAt n x.fr, bAt n x.to)))) r := fun r hr => by simpa using hr
      simp (decide := true) (implicitDefEqProofs := false) only [Am.findLoop, Am.loopOf, Am.bodyOf, Am.firstReg, Nat.beq, cond_true, cond_false, Am.splice, Am.walkW, Am.stdW, id, reduceCtorEq, Nat.reduceAdd, Nat.reduceSub, Nat.reduceMul, List.forall_mem_cons, List.forall_mem_nil, false_implies, implies_true, Try.f76, factsOf76, canonG10, rowN, accG, accGH, hix, hlt', hw, pa, pb, ia, ib, n0e, n0r, bA, fillAgg, fN, f1, f2, f3, f4, hap, List.replicate_succ, List.replicate_zero, buildSliceM, fillRow, appendF, appendH, src_lst, src_ref, elemsO_row, headOk_one, Nat.le_refl, keep76_10, b1, b2, b3, b4, b5, b6, b7, Am.compactK, Am.idsT, Am.closeStep, Am.keepW, Am.kstdW]
      exact ⟨(i + 1, y :: acc ++ [(u, v)]), by simp only [accG, accGH, List.cons_append, List.length_append, List.length_cons, List.length_nil, List.map_cons], ⟨hlt, by simp only [List.length_cons, List.length_append, List.length_nil] at hacc ⊢; omega⟩, by simp only; omega, hnx⟩
  · have hlt' : decide ((i : Int) < n.br.length) = false := decide_eq_false (by omega)
    rw [List.drop_eq_nil_of_le (by omega), List.map_nil, List.append_nil]
    cases acc with
    | nil =>
      simp (decide := true) (implicitDefEqProofs := false) only [Am.findLoop, Am.loopOf, Am.bodyOf, Am.firstReg, Nat.beq, cond_true, cond_false, Am.splice, Am.walkW, Am.stdW, id, reduceCtorEq, Nat.reduceAdd, Nat.reduceSub, Nat.reduceMul, List.forall_mem_cons, List.forall_mem_nil, false_implies, implies_true, Try.f76, factsOf76, canonG10, rowN, accG, accGH, hlt', b7]
      refine ⟨rfl, ?_⟩
      simp (decide := true) (implicitDefEqProofs := false) only [Am.findLoop, Am.loopOf, Am.bodyOf, Am.firstReg, Nat.beq, cond_true, cond_false, Am.splice, Am.walkW, Am.stdW, id, reduceCtorEq, Nat.reduceAdd, Nat.reduceSub, Nat.reduceMul, List.forall_mem_cons, List.forall_mem_nil, false_implies, implies_true, Try.f76, factsOf76, accG, accGH, fN, f2, f3, b1, b2, b3, b7, Am.compactK, Am.idsT, Am.closeStep, Am.keepW, Am.kstdW]
    | cons y acc =>
      have f1 := flatG enc2N_no (y :: acc) 2 true
      simp only [List.map_cons] at f1
      simp (decide := true) (implicitDefEqProofs := false) only [Am.findLoop, Am.loopOf, Am.bodyOf, Am.firstReg, Nat.beq, cond_true, cond_false, Am.splice, Am.walkW, Am.stdW, id, reduceCtorEq, Nat.reduceAdd, Nat.reduceSub, Nat.reduceMul, List.forall_mem_cons, List.forall_mem_nil, false_implies, implies_true, Try.f76, factsOf76, canonG10, rowN, accG, accGH, hlt', b7]
      refine ⟨rfl, ?_⟩
      simp (decide := true) (implicitDefEqProofs := false) only [Am.findLoop, Am.loopOf, Am.bodyOf, Am.firstReg, Nat.beq, cond_true, cond_false, Am.splice, Am.walkW, Am.stdW, id, reduceCtorEq, Nat.reduceAdd, Nat.reduceSub, Nat.reduceMul, List.forall_mem_cons, List.forall_mem_nil, false_implies, implies_true, Try.f76, factsOf76, accG, accGH, fN, f1, f2, f3, b1, b2, b3, b7, Am.compactK, Am.idsT, Am.closeStep, Am.keepW, Am.kstdW]
noncomputable def topV (b i : List Nat) : PV := .agg [.lst (b.map encN), .lst (i.map encN)]
theorem isle_eq {n : Net} (hv : VNet n) : partsF (-1) (brB n) (manyF n) = (isleF n).map Int.ofNat := parts_numbers (brB_ok hv)
set_option maxHeartbeats 8000000 in
theorem get_call (n : Net) (q0 q1 q2 q3 q4 q5 : PV) (hq : NetQ n q0 q1 q2 q3 q4 q5) (hv : VNet n) : pureCall hints L1 76 [.agg [q0, q1, q2, q3, q4, q5]] = some (topV (busF n) (isleF n)) := by
  refine pure_of prim76 (Holds.mono (Q := fun r => r.1 = topV (busF n) (isleF n)) ?_ fun r hr => by rw [hr]; exact exp_agg (by intro c hc; simp only [List.mem_cons, List.not_mem_nil, or_false] at hc; rcases hc with rfl | rfl <;> exact plain_lst _))
  have hl2 := fun H => (lens hq H).2.2.1
  have hsb := sbuses_N n q0 q1 q2 q3 q4 q5 hq hv
  have hne := hq.exp
  have hnr := hq.rch
  have fN := hq.no
  unfold rowN at fN
  have hBl := (bus_num hv).1
  have hln := hv.ln
  have hlb := hv.lb
  have hml := many_le hv
  have hlen := fun H => len_lst (P := Try.prog) (H := H) slZ24 ((busF n).map encN)
  rw [List.length_map] at hlen
  obtain ⟨b1, b2, b3, b4, b5, b6, b7⟩ := hq.h2.ids
  have hst : structOk Try.prog 56 = true := structOk56
  have f2 : flatM (.row [[PV.nils, .nils]] 2 true) = true := rfl
  have f3 : flatM (.row [[PV.lst ((busF n).map encN), .nils]] 2 true) = true := rfl
  have hbb : ∀ x ∈ busF n, x ≤ 1000 := by
    intro x hx
    obtain ⟨i, hi, rfl⟩ := mem_getD hx
    have := bus_le hv (by omega : i < n.nodes.length)
    omega
  have hg := graphCheck_ok (by omega) (brB_ok hv) (by rw [brB, List.length_map]; omega)
  have hc := fun q hq' => comp_ok q (brB n) hq' (manyF n) (by omega) (brB_ok hv) (by rw [brB, List.length_map]; omega) hg
  rw [isle_eq hv, encI_N] at hc
  refine rn_rule (fn := Try.f76) (code := bodyOf Try.f76) ok76 Try.func76 (by kernel_rfl) (Nat.le_of_ble_eq_true (by kernel_rfl)) ?_
  simp (decide := true) (implicitDefEqProofs := false) only [Am.findLoop, Am.loopOf, Am.bodyOf, Am.firstReg, Nat.beq, cond_true, cond_false, Am.splice, Am.walkW, Am.stdW, id, reduceCtorEq, Nat.reduceAdd, Nat.reduceSub, Nat.reduceMul, List.forall_mem_cons, List.forall_mem_nil, false_implies, implies_true, Try.f76, factsOf76, hsb, hne, hnr, hlen, build_struct, hst, fillAgg]
  simp only [holds_bind]
  refine (get_most n q0 q1 q2 q3 q4 q5 hq (busF n) (by omega) hbb (0, 0) _ ⟨by omega, by omega⟩ ?_).mono ?_
  · show maskK (hints.keep 76 4) _ _ = _
    simp (decide := true) (implicitDefEqProofs := false) only [Am.findLoop, Am.loopOf, Am.bodyOf, Am.firstReg, Nat.beq, cond_true, cond_false, Am.splice, Am.walkW, Am.stdW, id, reduceCtorEq, Nat.reduceAdd, Nat.reduceSub, Nat.reduceMul, List.forall_mem_cons, List.forall_mem_nil, false_implies, implies_true, Try.f76, factsOf76, keep76_4, canonG4, rowN, fN, f2, f3, Am.compactK, Am.idsT, Am.closeStep, Am.keepW, Am.kstdW]
    rfl
  · rintro ⟨e, s'⟩ ⟨h5, h6⟩
    cases h5
    rw [keepB76_0] at h6
    simp only [List.drop_zero] at h6
    simp (decide := true) (implicitDefEqProofs := false) only [Am.findLoop, Am.loopOf, Am.bodyOf, Am.firstReg, Nat.beq, cond_true, cond_false, Am.splice, Am.walkW, Am.stdW, id, reduceCtorEq, Nat.reduceAdd, Nat.reduceSub, Nat.reduceMul, List.forall_mem_cons, List.forall_mem_nil, false_implies, implies_true, Try.f76, factsOf76, h6, rowN, hl2]
    simp only [holds_bind]
    refine (get_br n q0 q1 q2 q3 q4 q5 hq hv (manyF n) (0, []) _ ⟨by omega, by simp⟩ ?_).mono ?_
    · show maskK (hints.keep 76 10) _ _ = _
      simp (decide := true) (implicitDefEqProofs := false) only [Am.findLoop, Am.loopOf, Am.bodyOf, Am.firstReg, Nat.beq, cond_true, cond_false, Am.splice, Am.walkW, Am.stdW, id, reduceCtorEq, Nat.reduceAdd, Nat.reduceSub, Nat.reduceMul, List.forall_mem_cons, List.forall_mem_nil, false_implies, implies_true, Try.f76, factsOf76, keep76_10, canonG10, rowN, accG, accGH, fN, f2, f3, b1, b2, b3, b4, b5, b6, b7, Am.compactK, Am.idsT, Am.closeStep, Am.keepW, Am.kstdW]
      rfl
    · rintro ⟨e, s'⟩ ⟨h7, h8⟩
      cases h7
      rw [keepB76_2] at h8
      simp only [List.drop_zero, List.nil_append] at h8
      rw [show (n.br.map fun x => (bAt n x.fr, bAt n x.to)) = brB n from rfl] at h8
      generalize brB n = l at h8 hc
      cases l with
      | nil =>
        have hc1 := hc .nils (.inl ⟨rfl, rfl⟩)
        simp (decide := true) (implicitDefEqProofs := false) only [Am.findLoop, Am.loopOf, Am.bodyOf, Am.firstReg, Nat.beq, cond_true, cond_false, Am.splice, Am.walkW, Am.stdW, id, reduceCtorEq, Nat.reduceAdd, Nat.reduceSub, Nat.reduceMul, List.forall_mem_cons, List.forall_mem_nil, false_implies, implies_true, Try.f76, factsOf76, h8, accG, accGH, hc1]
        rfl
      | cons y acc =>
        have hc1 := hc (.lst ((y :: acc).map enc2N)) (.inr rfl)
        have hex : ∀ H : List Mem, H[2]? = some (.row ((y :: acc).map enc2N) 2 true) → exp expFuel H (.ref 2 0 (acc.length + 1) (acc.length + 1)) = some (.lst ((y :: acc).map enc2N)) := fun H hH => exp_full hH (by simp) (by
          intro c hc v hv
          obtain ⟨x, _, rfl⟩ := List.mem_map.1 hc
          exact enc2N_plain x v hv)
        have hrx : ∀ H : List Mem, H[2]? = some (.row ((y :: acc).map enc2N) 2 true) → rch expFuel H (.ref 2 0 (acc.length + 1) (acc.length + 1)) = [2] := fun H hH => rch_full hH (by
          intro c hc v hv
          obtain ⟨x, _, rfl⟩ := List.mem_map.1 hc
          obtain ⟨k, rfl⟩ := enc2N_int x v hv
          exact ⟨_, _, rfl⟩) (by simp)
        simp only [List.map_cons] at hc1 hex hrx
        simp (decide := true) (implicitDefEqProofs := false) only [Am.findLoop, Am.loopOf, Am.bodyOf, Am.firstReg, Nat.beq, cond_true, cond_false, Am.splice, Am.walkW, Am.stdW, id, reduceCtorEq, Nat.reduceAdd, Nat.reduceSub, Nat.reduceMul, List.forall_mem_cons, List.forall_mem_nil, false_implies, implies_true, Try.f76, factsOf76, h8, accG, accGH, hc1, hex, hrx, freeze_cons, freeze1_O, frzO_row]
        rfl
/-! Of -/
theorem of_bad (n : Net) (q0 q1 q2 q3 q4 q5 : PV) (hq : NetQ n q0 q1 q2 q3 q4 q5) (hb : netE n ≠ 0) : pureCall hints L1 29 [.agg [q0, q1, q2, q3, q4, q5]] = some (.tup [.agg [.nils, .nils], .int .i64 (netE n)]) := by
  refine pure_of prim29 (Holds.mono (Q := fun r => r.1 = .tup [.agg [.nils, .nils], .int .i64 (netE n)]) ?_ fun r hr => by rw [hr]; rfl)
  have hck := check_call n q0 q1 q2 q3 q4 q5 hq
  have hne := hq.exp
  have hnr := hq.rch
  have hb' : decide (netE n = 0) = false := decide_eq_false hb
  have hst : structOk Try.prog 56 = true := structOk56
  refine rn_rule (fn := Try.f29) (code := bodyOf Try.f29) ok29 Try.func29 (by kernel_rfl) (Nat.le_of_ble_eq_true (by kernel_rfl)) ?_
  simp (decide := true) (implicitDefEqProofs := false) only [Am.findLoop, Am.loopOf, Am.bodyOf, Am.firstReg, Nat.beq, cond_true, cond_false, Am.splice, Am.walkW, Am.stdW, id, reduceCtorEq, Nat.reduceAdd, Nat.reduceSub, Nat.reduceMul, List.forall_mem_cons, List.forall_mem_nil, false_implies, implies_true, Try.f29, factsOf29, hck, hne, hnr, hb', build_struct, hst, fillAgg]
theorem of_ok (n : Net) (q0 q1 q2 q3 q4 q5 : PV) (hq : NetQ n q0 q1 q2 q3 q4 q5) (h0 : netE n = 0) : pureCall hints L1 29 [.agg [q0, q1, q2, q3, q4, q5]] = some (.tup [topV (busF n) (isleF n), .int .i64 0]) := by
  refine pure_of prim29 (Holds.mono (Q := fun r => r.1 = .tup [topV (busF n) (isleF n), .int .i64 0]) ?_ fun r hr => by rw [hr]; rfl)
  have hck := check_call n q0 q1 q2 q3 q4 q5 hq
  have hg := get_call n q0 q1 q2 q3 q4 q5 hq (vnet h0)
  rw [h0] at hck
  have hne := hq.exp
  have hnr := hq.rch
  unfold topV at hg ⊢
  refine rn_rule (fn := Try.f29) (code := bodyOf Try.f29) ok29 Try.func29 (by kernel_rfl) (Nat.le_of_ble_eq_true (by kernel_rfl)) ?_
  simp (decide := true) (implicitDefEqProofs := false) only [Am.findLoop, Am.loopOf, Am.bodyOf, Am.firstReg, Nat.beq, cond_true, cond_false, Am.splice, Am.walkW, Am.stdW, id, reduceCtorEq, Nat.reduceAdd, Nat.reduceSub, Nat.reduceMul, List.forall_mem_cons, List.forall_mem_nil, false_implies, implies_true, Try.f29, factsOf29, hck, hg, hne, hnr]
end Go.Proofs.Ytcclbkkgpcpikaa

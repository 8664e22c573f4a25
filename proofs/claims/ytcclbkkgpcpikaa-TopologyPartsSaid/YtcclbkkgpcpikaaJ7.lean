import Derived.Test.YtcclbkkgpcpikaaJ6
set_option linter.unusedSimpArgs false
set_option linter.unusedVariables false
namespace Go.Proofs.Ytcclbkkgpcpikaa
open Go.Am
set_option maxRecDepth 100000
theorem Sl_rchn {q : PV} {es : List (List PV)} (hq : Sl q es) (n : Nat) (H : List Mem) : rch (n + 1) H q = [] := by
  rcases hq with ⟨rfl, _⟩ | rfl <;> rfl
theorem exp40_agg {H : List Mem} (cs : List PV) : exp expFuel H (.agg cs) = (omap (exp 39 H) cs).bind fun c => some (.agg c) := by
  show (omap (exp 39 H) cs).map PV.agg = _
  cases omap (exp 39 H) cs <;> rfl
theorem exp_full39 {H : List Mem} {i k z : Nat} {es : List (List PV)} {b : Bool} (hH : H[i]? = some (.row es z b)) (hl : es.length = k) (hp : ∀ c ∈ es, ∀ x ∈ c, Plain x) : exp 39 H (.ref i 0 k k) = some (.lst es) := by
  rw [exp39_ref, hH, rowC_row, if_pos (by omega), List.drop_zero, List.take_of_length_le (by omega), plainss (n := 37) hp]; rfl
theorem exp38_nils' {H : List Mem} : exp 38 H .nils = some .nils := rfl
set_option maxHeartbeats 8000000 in
theorem rtop_end (n : Net) (q0 q1 q2 q3 q4 q5 : PV) (hq : NetQ n q0 q1 q2 q3 q4 q5) (hv : VNet n) (hs : Holds ((L1.rn 31 [.agg [q0, q1, q2, q3, q4, q5]] [])) (fun r => r.1 = .agg [outN (busF n), .ref 1 0 (manyF n) (manyF n)] ∧ r.2[1]? = some (.row ((isleF n).map encN) 1 true))) :
    pureCall hints L1 31 [.agg [q0, q1, q2, q3, q4, q5]] = some (.agg [outN (busF n), .lst ((isleF n).map encN)]) := by
  refine pure_of prim31 (hs.mono ?_)
  rintro ⟨v, H⟩ ⟨h1, h2⟩
  simp only at h1 h2
  subst h1
  have e1 : exp 39 H (outN (busF n)) = some (outN (busF n)) := (outN_sl' (busF n)).plain 38 H
  have e2 := exp_full39 (k := manyF n) h2 (by rw [List.length_map]; exact (isle_num hv).1) (plainN _)
  rw [exp40_agg, omap_cons', e1, omap_cons', e2]; rfl
set_option maxHeartbeats 16000000 in
theorem rtop_call (n : Net) (q0 q1 q2 q3 q4 q5 : PV) (hq : NetQ n q0 q1 q2 q3 q4 q5) (hv : VNet n) : pureCall hints L1 31 [.agg [q0, q1, q2, q3, q4, q5]] = some (.agg [outN (busF n), .lst ((isleF n).map encN)]) := by
  refine rtop_end n q0 q1 q2 q3 q4 q5 hq hv ?_
  have hl0 := fun H => (lens hq H).1
  have hl2 := fun H => (lens hq H).2.2.1
  have hrb := rbuses_call n q0 q1 q2 q3 q4 q5 hq hv
  have hsw := fun b => switching_imp n q0 q1 q2 q3 q4 q5 hq hv b
  have hne := hq.exp
  have hnr := hq.rch
  have fN := hq.no
  unfold rowN at fN
  have hBl := (bus_num hv).1
  have hln := hv.ln
  have hlb := hv.lb
  have hls := hv.ls
  have hml := many_le hv
  have hswl : (swL n).length = n.sw.length := by simp [swL]
  obtain ⟨b1, b2, b3, b4, b5, b6, b7⟩ := hq.h2.ids
  obtain ⟨o1, o2, o3, o4⟩ := outN_no (busF n)
  have ont : noTup (outN (busF n)) = some (outN (busF n)) := by cases busF n <;> rfl
  have oce : cellsOf (outN (busF n)) = [outN (busF n)] := by cases busF n <;> rfl
  have oe := fun H => (outN_sl' (busF n)).plain.exp (H := H)
  have or_ := fun H => (outN_sl' (busF n)).rch (H := H)
  have hlr := fun H id i n m => len_ref (P := Try.prog) (H := H) slZ22 id i n m
  have hlnn := fun H => len_nils (P := Try.prog) (H := H) slZ22
  have hlo := fun H => len_sl (P := Try.prog) (H := H) (outN_sl' (busF n)) slZ24
  rw [List.length_map, hBl] at hlo
  have f2 : flatM (.row [[PV.nils, .nils]] 2 true) = true := rfl
  have f3 : flatM (.row [[PV.int .i64 (n.sw.length : Nat)]] 1 true) = true := rfl
  have hst : structOk Try.prog 56 = true := structOk56
  have hok := allL_ok hv
  have hal : (allL n).length ≤ 64 := by rw [allL, List.length_append, hswl, brN, List.length_map]; omega
  have hj := fun q hq' => joined_call n.nodes.length hln q (allL n) hq' hok hal _ _ _ (clo_top n q0 q1 q2 q3 q4 q5 hq)
  have hnm := numbers_call n.nodes.length hln _ (joinedF_sq (used := usedT n) hok)
  have hpF : numbersF (joinedF (usedT n) n.nodes.length (allL n)) n.nodes.length = partF n := rfl
  rw [hpF] at hnm
  rw [matC_eq] at hnm
  simp only [matC_eq] at hj
  have hpl := (part_num hv).1
  obtain ⟨p1, p2, p3, p4⟩ := outN_no (partF n)
  have hbb : ∀ x ∈ busF n, x ≤ 1000 := by
    intro x hx
    obtain ⟨i, hi, rfl⟩ := mem_getD hx
    have := bus_le hv (by omega : i < n.nodes.length)
    omega
  have hmo := most_call _ (busF n) (outN_sl' (busF n)) (by omega) hbb
  rw [show mostF 0 (busF n) = manyF n from rfl] at hmo
  have hby : 8 * manyF n ≤ 281474976710656 := by omega
  have hcap : manyF n < 9223372036854775808 := by omega
  have hrep : List.replicate (manyF n) [PV.int .i64 0] = (List.replicate (manyF n) 0).map encN := by rw [List.map_replicate]; rfl
  have f4 := flatN (List.replicate (manyF n) 0) 1 true
  have x0 := fun H => hq.h0.plain 37 H
  have x1 := fun H => hq.h1.plain 37 H
  have x2 := fun H => hq.h2.plain 37 H
  have x3 := fun H => hq.h3.plain 37 H
  have x4 := fun H => hq.h4.plain 37 H
  have x5 := fun H => hq.h5.plain 37 H
  have y0 := fun H => Sl_rchn hq.h0 37 H
  have y1 := fun H => Sl_rchn hq.h1 37 H
  have y2 := fun H => Sl_rchn hq.h2 37 H
  have y3 := fun H => Sl_rchn hq.h3 37 H
  have y4 := fun H => Sl_rchn hq.h4 37 H
  have y5 := fun H => Sl_rchn hq.h5 37 H
  have brEq : (n.br.map fun x => (plN n x.fr, plN n x.to)) = brN n := rfl
  have start : Holds (L1.rn 31 [.agg [q0, q1, q2, q3, q4, q5]] []) (fun r => r.1 = .agg [outN (busF n), .ref 1 0 (manyF n) (manyF n)] ∧ r.2[1]? = some (.row ((isleF n).map encN) 1 true)) := by
    have hbr := rtop_br n q0 q1 q2 q3 q4 q5 hq hv (busF n) n.sw.length (0, swL n)
    simp only [List.drop_zero, brEq] at hbr
    rw [show swL n ++ brN n = allL n from rfl] at hbr
    have hla : ∀ H, lenPV Try.prog H 22 (accG 2 (swL n)) = some (.int .i64 n.sw.length) := by
      intro H
      rw [← hswl]
      cases swL n with
      | nil => exact hlnn H
      | cons y r => rw [accG, hlr]; rfl
    have hget : ∀ m : Mem, (accGH enc2N 2 (swL n) ++ [m])[(accGH enc2N 2 (swL n)).length]? = some m := fun m => by rw [List.getElem?_append_right (Nat.le_refl _), Nat.sub_self]; rfl
    have hset : ∀ m m' : Mem, (accGH enc2N 2 (swL n) ++ [m]).set (accGH enc2N 2 (swL n)).length m' = accGH enc2N 2 (swL n) ++ [m'] := fun m m' => by rw [List.set_append_right _ _ (Nat.le_refl _), Nat.sub_self]; rfl
    refine rn_rule (fn := Try.f31) (code := bodyOf Try.f31) ok31 Try.func31 (by kernel_rfl) (Nat.le_of_ble_eq_true (by kernel_rfl)) ?_
    simp (decide := true) (implicitDefEqProofs := false) only [Am.findLoop, Am.loopOf, Am.bodyOf, Am.firstReg, Nat.beq, cond_true, cond_false, Am.splice, Am.walkW, Am.stdW, id, reduceCtorEq, Nat.reduceAdd, Nat.reduceSub, Nat.reduceMul, List.forall_mem_cons, List.forall_mem_nil, false_implies, implies_true, Try.f31, factsOf31, hrb, hsw, hne, hnr, hla, hget, hset, hl2]
    simp only [holds_bind]
    refine (hbr _ ⟨by omega, by omega⟩ ?_).mono ?_
    · show maskK (hints.keep 31 5) _ _ = _
      generalize swL n = L
      cases L with
      | nil =>
        simp (decide := true) (implicitDefEqProofs := false) only [Am.findLoop, Am.loopOf, Am.bodyOf, Am.firstReg, Nat.beq, cond_true, cond_false, Am.splice, Am.walkW, Am.stdW, id, reduceCtorEq, Nat.reduceAdd, Nat.reduceSub, Nat.reduceMul, List.forall_mem_cons, List.forall_mem_nil, false_implies, implies_true, Try.f31, factsOf31, keep31_5, canonT5, rowN, accG, accGH, pT, fN, f2, f3, o2, o3, o4, b1, b2, b3, b4, b5, b6, b7, Am.compactK, Am.idsT, Am.closeStep, Am.keepW, Am.kstdW]
        rfl
      | cons y acc =>
        have f5 := flatG enc2N_no (y :: acc) 2 true
        simp only [List.map_cons] at f5
        simp (decide := true) (implicitDefEqProofs := false) only [Am.findLoop, Am.loopOf, Am.bodyOf, Am.firstReg, Nat.beq, cond_true, cond_false, Am.splice, Am.walkW, Am.stdW, id, reduceCtorEq, Nat.reduceAdd, Nat.reduceSub, Nat.reduceMul, List.forall_mem_cons, List.forall_mem_nil, false_implies, implies_true, Try.f31, factsOf31, keep31_5, canonT5, rowN, accG, accGH, pT, fN, f2, f3, f5, o2, o3, o4, b1, b2, b3, b4, b5, b6, b7, Am.compactK, Am.idsT, Am.closeStep, Am.keepW, Am.kstdW]
        rfl
    · rintro ⟨e, s'⟩ ⟨h5, h6⟩
      cases h5
      rw [keepB31_0] at h6
      generalize joinedF (usedT n) n.nodes.length (allL n) = J at hj hnm
      generalize allL n = F at h6 hj
      cases F with
      | nil =>
        have hj1 := hj .nils (.inl ⟨rfl, rfl⟩)
        simp only [rowN, accG, accGH, pT, List.nil_append] at h6
        simp (decide := true) (implicitDefEqProofs := false) only [Am.findLoop, Am.loopOf, Am.bodyOf, Am.firstReg, Nat.beq, cond_true, cond_false, Am.splice, Am.walkW, Am.stdW, id, reduceCtorEq, Nat.reduceAdd, Nat.reduceSub, Nat.reduceMul, List.forall_mem_cons, List.forall_mem_nil, false_implies, implies_true, Try.f31, factsOf31, h6, hl0, hj1, hnm, hmo, oe, or_, makeSlice_nat, hby, hcap, hrep, hlo, exp40_func, exp39_ptr, ptrC_row, exp38_int, x0, x1, x2, x3, x4, x5, rch40_func, rch39_ptr, rchP_row, rch38_int, y0, y1, y2, y3, y4, y5, Option.getD_some, freeze_cons, freeze_nil, freeze1_O, frzO_row, matC_eq]
        simp only [holds_bind]
        refine (rtop_fill (busF n) (partF n) (manyF n) n.nodes.length hln hBl hpl (fun i hi => bus_lt hv hi) (0, List.replicate (manyF n) 0) _ ⟨by omega, by simp⟩ ?_).mono ?_
        · show maskK (hints.keep 31 13) _ _ = _
          simp (decide := true) (implicitDefEqProofs := false) only [Am.findLoop, Am.loopOf, Am.bodyOf, Am.firstReg, Nat.beq, cond_true, cond_false, Am.splice, Am.walkW, Am.stdW, id, reduceCtorEq, Nat.reduceAdd, Nat.reduceSub, Nat.reduceMul, List.forall_mem_cons, List.forall_mem_nil, false_implies, implies_true, Try.f31, factsOf31, keep31_13, canonT13, f2, f4, o2, o3, o4, p2, p3, p4, Am.compactK, Am.idsT, Am.closeStep, Am.keepW, Am.kstdW]
          rfl
        · rintro ⟨e, s'⟩ ⟨h7, h8⟩
          cases h7
          rw [keepB31_2] at h8
          simp only [Nat.sub_zero, fillI_eq hv] at h8
          simp (decide := true) (implicitDefEqProofs := false) only [Am.findLoop, Am.loopOf, Am.bodyOf, Am.firstReg, Nat.beq, cond_true, cond_false, Am.splice, Am.walkW, Am.stdW, id, reduceCtorEq, Nat.reduceAdd, Nat.reduceSub, Nat.reduceMul, List.forall_mem_cons, List.forall_mem_nil, false_implies, implies_true, Try.f31, factsOf31, h8, build_struct, hst, fillAgg, ont, oce]
      | cons y acc =>
        have hj1 := hj (.lst ((y :: acc).map enc2N)) (.inr rfl)
        have hex : ∀ H : List Mem, H[2]? = some (.row ((y :: acc).map enc2N) 2 true) → exp expFuel H (.ref 2 0 (acc.length + 1) (acc.length + 1)) = some (.lst ((y :: acc).map enc2N)) := fun H hH => exp_full hH (by simp) (by
          intro c hc v hv
          obtain ⟨x, _, rfl⟩ := List.mem_map.1 hc
          exact enc2N_plain x v hv)
        have hrx : ∀ H : List Mem, H[2]? = some (.row ((y :: acc).map enc2N) 2 true) → rch expFuel H (.ref 2 0 (acc.length + 1) (acc.length + 1)) = [2] := fun H hH => rch_full hH (by
          intro c hc v hv
          obtain ⟨x, _, rfl⟩ := List.mem_map.1 hc
          obtain ⟨k, rfl⟩ := enc2N_int x v hv
          exact ⟨_, _, rfl⟩) (by simp)
        simp only [List.map_cons] at hj1 hex hrx
        simp only [rowN, accG, accGH, pT, List.map_cons, List.cons_append, List.nil_append] at h6
        simp (decide := true) (implicitDefEqProofs := false) only [Am.findLoop, Am.loopOf, Am.bodyOf, Am.firstReg, Nat.beq, cond_true, cond_false, Am.splice, Am.walkW, Am.stdW, id, reduceCtorEq, Nat.reduceAdd, Nat.reduceSub, Nat.reduceMul, List.forall_mem_cons, List.forall_mem_nil, false_implies, implies_true, Try.f31, factsOf31, h6, hl0, hj1, hex, hrx, hnm, hmo, oe, or_, makeSlice_nat, hby, hcap, hrep, hlo, exp40_func, exp39_ptr, ptrC_row, exp38_int, x0, x1, x2, x3, x4, x5, rch40_func, rch39_ptr, rchP_row, rch38_int, y0, y1, y2, y3, y4, y5, Option.getD_some, freeze_cons, freeze_nil, freeze1_O, frzO_row, matC_eq]
        simp only [holds_bind]
        refine (rtop_fill (busF n) (partF n) (manyF n) n.nodes.length hln hBl hpl (fun i hi => bus_lt hv hi) (0, List.replicate (manyF n) 0) _ ⟨by omega, by simp⟩ ?_).mono ?_
        · show maskK (hints.keep 31 13) _ _ = _
          simp (decide := true) (implicitDefEqProofs := false) only [Am.findLoop, Am.loopOf, Am.bodyOf, Am.firstReg, Nat.beq, cond_true, cond_false, Am.splice, Am.walkW, Am.stdW, id, reduceCtorEq, Nat.reduceAdd, Nat.reduceSub, Nat.reduceMul, List.forall_mem_cons, List.forall_mem_nil, false_implies, implies_true, Try.f31, factsOf31, keep31_13, canonT13, f2, f4, o2, o3, o4, p2, p3, p4, Am.compactK, Am.idsT, Am.closeStep, Am.keepW, Am.kstdW]
          rfl
        · rintro ⟨e, s'⟩ ⟨h7, h8⟩
          cases h7
          rw [keepB31_2] at h8
          simp only [Nat.sub_zero, fillI_eq hv] at h8
          simp (decide := true) (implicitDefEqProofs := false) only [Am.findLoop, Am.loopOf, Am.bodyOf, Am.firstReg, Nat.beq, cond_true, cond_false, Am.splice, Am.walkW, Am.stdW, id, reduceCtorEq, Nat.reduceAdd, Nat.reduceSub, Nat.reduceMul, List.forall_mem_cons, List.forall_mem_nil, false_implies, implies_true, Try.f31, factsOf31, h8, build_struct, hst, fillAgg, ont, oce]
  exact start
end Go.Proofs.Ytcclbkkgpcpikaa

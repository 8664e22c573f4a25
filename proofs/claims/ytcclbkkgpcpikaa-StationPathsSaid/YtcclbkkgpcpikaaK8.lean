import Derived.Test.YtcclbkkgpcpikaaK6
set_option linter.unusedSimpArgs false
set_option linter.unusedVariables false
namespace Go.Proofs.Ytcclbkkgpcpikaa
open Go.Am
set_option maxRecDepth 100000
set_option maxHeartbeats 32000000 in
theorem sjoin_call (n : Net) (q0 q1 q2 q3 q4 q5 : PV) (hq : NetQ n q0 q1 q2 q3 q4 q5) (a b : ByteArray) : pureCall hints L1 44 [.agg [q0, q1, q2, q3, q4, q5], .str a, .str b] = some (sJoinV n a b) := by
  have hne := hq.exp
  have hnr := hq.rch
  have fN := hq.no
  unfold rowN at fN
  have hlz := fun H => len_nils (P := Try.prog) (H := H) slZ22
  have hlr := fun H id i n m => len_ref (P := Try.prog) (H := H) slZ22 id i n m
  have hck := scheck_call n q0 q1 q2 q3 q4 q5 hq (.lst [[.str a], [.str b]]) [a, b] (.inr rfl) (by simp)
  have hex : ∀ H : List Mem, H[1]? = some (.row [[.str a], [.str b]] 1 true) → exp expFuel H (.ref 1 0 2 2) = some (.lst [[.str a], [.str b]]) := fun H hH => exp_full hH rfl (by
    intro c hc x hx
    simp only [List.mem_cons, List.not_mem_nil, or_false] at hc
    rcases hc with rfl | rfl <;> (simp only [List.mem_cons, List.not_mem_nil, or_false] at hx; subst hx; exact plain_str _))
  have hrx : ∀ H : List Mem, H[1]? = some (.row [[.str a], [.str b]] 1 true) → rch expFuel H (.ref 1 0 2 2) = [1] := fun H hH => rch_strs hH (by
    intro c hc x hx
    simp only [List.mem_cons, List.not_mem_nil, or_false] at hc
    rcases hc with rfl | rfl <;> (simp only [List.mem_cons, List.not_mem_nil, or_false] at hx; exact ⟨_, hx⟩)) rfl
  have hval : ∀ hp : List Mem, exp expFuel hp (sJoinV n a b) = some (sJoinV n a b) := by
    intro hp
    unfold sJoinV
    split
    · rfl
    · split
      · generalize (joinW n a b).2.map (fun k => swNm n ((atL n true).getD k 0)) = w
        simp only [exp_tup, omap_cons', omap_nil', exp39_int, Option.bind_some]
        cases w <;> rfl
      · rfl
  refine pure_of prim44 (Holds.mono (Q := fun r => r.1 = sJoinV n a b) ?_ fun r hr => by rw [hr]; exact hval _)
  by_cases h0 : stE n [a, b] = 0
  · obtain ⟨h1, h2, h3⟩ := chk_zero h0
    have hv := vnet h1
    rw [h0] at hck
    have hll := hv.ls
    have hln := hv.ln
    have hlm : n.nodes.length ≤ maxLen := by unfold maxLen; omega
    have pa := index_call q0 n.nodes hq.h0 a hlm
    have pb := index_call q0 n.nodes hq.h0 b hlm
    obtain ⟨pa1, pa2⟩ := plN_ok h2
    obtain ⟨pb1, pb2⟩ := plN_ok h3
    rw [pa1] at pa
    rw [pb1] at pb
    have hl0 := fun H => (lens hq H).1
    have n0e := fun H => hq.h0.plain.exp (H := H)
    have n0r := fun H => hq.h0.rch (H := H)
    have he := fun b => edges_imp n q0 q1 q2 q3 q4 q5 hq hv true b
    have hbs := sbuses_call n q0 q1 q2 q3 q4 q5 hq hv
    rw [bus_eq hv, encI_N] at hbs
    have hBl := (bus_num hv).1
    have b1 := bus_le hv pa2
    have b2 := bus_le hv pb2
    have ib := fun H => index_sl (P := Try.prog) (H := H) (.inr rfl : Sl (.lst ((busF n).map encN)) _) slZ24 (k := .i64) (j := plN n a) (by omega) (by rw [Int.toNat_natCast]; exact getN (by omega : plN n a < (busF n).length)) rfl
    have ic := fun H => index_sl (P := Try.prog) (H := H) (.inr rfl : Sl (.lst ((busF n).map encN)) _) slZ24 (k := .i64) (j := plN n b) (by omega) (by rw [Int.toNat_natCast]; exact getN (by omega : plN n b < (busF n).length)) rfl
    obtain ⟨ho1, ho2⟩ := edgA_ok hv true
    have hj1 := joinL_ok hv
    have hjl : (joinL n).length = (edgA n true).length := by unfold joinL; simp
    rw [List.length_map] at ho2
    have hg := graphCheck_ok hln hj1 (by omega)
    have hF := farOk hln hj1 (show (busF n).getD (plN n b) 0 < n.nodes.length by omega)
    have hwl := way_lt (n := n.nodes.length) (l := joinL n) (fr := (busF n).getD (plN n a) 0) (to := (busF n).getD (plN n b) 0)
    have hwn := way_len hF (show (busF n).getD (plN n a) 0 < n.nodes.length by omega)
    have hwy := fun q hq' => way_ok q (joinL n) hq' n.nodes.length hln hj1 (by omega) hg ((busF n).getD (plN n a) 0) ((busF n).getD (plN n b) 0) (by omega) (by omega) hF
    have hV : sJoinV n a b = if (wayR n.nodes.length (joinL n) ((busF n).getD (plN n a) 0) ((busF n).getD (plN n b) 0)).1 = true then .tup [outG encS ((wayR n.nodes.length (joinL n) ((busF n).getD (plN n a) 0) ((busF n).getD (plN n b) 0)).2.map fun k => swNm n (((edgA n true).map (·.2)).getD k 0)), .int .i64 0] else .tup [.nils, .int .i64 8] := by
      unfold sJoinV joinW
      rw [if_neg (by simpa using h0)]
      rfl
    rw [hV]
    have hat := atL_lt n true
    unfold atL at hat
    rw [getD_get (by omega : plN n a < (busF n).length)] at hwl hwn hwy ⊢
    rw [getD_get (by omega : plN n b < (busF n).length)] at hwl hwn hwy ⊢
    generalize (busF n)[plN n a]'(by omega) = ba at ib hwl hwn hwy ⊢
    generalize (busF n)[plN n b]'(by omega) = bb at ic hwl hwn hwy ⊢
    have hJ : joinL n = ((edgA n true).map (busP n)).map (·.1) := rfl
    rw [hjl] at hwl
    generalize wayR n.nodes.length (joinL n) ba bb = wy at hwl hwn hwy ⊢
    obtain ⟨ok, w⟩ := wy
    simp only at hwl hwn
    have hsl := outN_sl' w
    have hnm := fun qa hqa => snames_call n q0 q1 q2 q3 q4 q5 hq (outN w) qa w ((edgA n true).map (·.2)) hsl hqa (by omega) (by simpa using hwl) hat (by omega)
    have w1 := fun H => hsl.plain.exp (H := H)
    have w2 := fun H => hsl.rch (H := H)
    have g0 := hsl.ids
    have hjn := join_loop n q0 q1 q2 q3 q4 q5 hq hv a b (edgA n true) ho1 (edgA n true).length rfl (by omega) (0, edgA n true)
    have hj0 := join_loop0 n q0 q1 q2 q3 q4 q5 hq a b 0
    simp only [List.drop_zero, List.take_zero, List.nil_append] at hjn
    rw [hJ] at hwy
    generalize edgA n true = l at *
    cases l with
    | nil =>
      have hw1 := hwy .nils (.inl ⟨rfl, rfl⟩)
      have hn1 := hnm .nils (.inl ⟨rfl, rfl⟩)
      simp only [List.map_nil] at hw1 hn1 ⊢
      refine rn_rule (fn := Try.f44) (code := bodyOf Try.f44) ok44 Try.func44 (by kernel_rfl) (Nat.le_of_ble_eq_true (by kernel_rfl)) ?_
      simp (decide := true) (implicitDefEqProofs := false) only [Am.findLoop, Am.loopOf, Am.bodyOf, Am.firstReg, Nat.beq, cond_true, cond_false, Am.splice, Am.walkW, Am.stdW, id, reduceCtorEq, Nat.reduceAdd, Nat.reduceSub, Nat.reduceMul, List.forall_mem_cons, List.forall_mem_nil, false_implies, implies_true, Try.f44, factsOf44, hck, hex, hrx, hl0, he, hbs, hne, hnr, hlz, accG, accGH, List.replicate_succ, List.replicate_zero, buildSliceM, fillRow, freeze_cons, freeze1_O, frzO_row]
      simp only [holds_bind]
      refine (hj0 _ rfl ?_).mono ?_
      · show maskK (hints.keep 44 7) _ _ = _
        simp (decide := true) (implicitDefEqProofs := false) only [Am.findLoop, Am.loopOf, Am.bodyOf, Am.firstReg, Nat.beq, cond_true, cond_false, Am.splice, Am.walkW, Am.stdW, id, reduceCtorEq, Nat.reduceAdd, Nat.reduceSub, Nat.reduceMul, List.forall_mem_cons, List.forall_mem_nil, false_implies, implies_true, Try.f44, factsOf44, keep44_7, canonJ0, rowN, fN, Am.compactK, Am.idsT, Am.closeStep, Am.keepW, Am.kstdW]
      · rintro ⟨e, s'⟩ ⟨h5, h6⟩
        cases h5
        rw [keepB44_0] at h6
        cases ok with
        | true => simp (decide := true) (implicitDefEqProofs := false) only [Am.findLoop, Am.loopOf, Am.bodyOf, Am.firstReg, Nat.beq, cond_true, cond_false, Am.splice, Am.walkW, Am.stdW, id, reduceCtorEq, Nat.reduceAdd, Nat.reduceSub, Nat.reduceMul, List.forall_mem_cons, List.forall_mem_nil, false_implies, implies_true, Try.f44, factsOf44, h6, outJ0, rowN, hl0, hne, hnr, n0e, n0r, pa, pb, ib, ic, hw1, hn1, w1, w2, wayV]
        | false => simp (decide := true) (implicitDefEqProofs := false) only [Am.findLoop, Am.loopOf, Am.bodyOf, Am.firstReg, Nat.beq, cond_true, cond_false, Am.splice, Am.walkW, Am.stdW, id, reduceCtorEq, Nat.reduceAdd, Nat.reduceSub, Nat.reduceMul, List.forall_mem_cons, List.forall_mem_nil, false_implies, implies_true, Try.f44, factsOf44, h6, outJ0, rowN, hl0, hne, hnr, n0e, n0r, pa, pb, ib, ic, hw1, wayV]
    | cons y acc =>
      have hM : ∀ M : List PE, M = (y :: acc).map (busP n) → M.length = acc.length + 1 := fun M hM => by rw [hM]; simp
      have hw1 := hwy (.lst (((y :: acc).map (busP n)).map encP1)) (.inr (by rw [List.map_map (f := fun x : PE => x.1)]; rfl))
      have hn1 := hnm (.lst ((y :: acc).map encP2)) (.inr (by rw [List.map_map]; rfl))
      have fM := flatG encP1_no (y :: acc) 2 true
      have fL := flatG encP2_no (y :: acc) 1 true
      generalize hMe : (y :: acc).map (busP n) = M at *
      have hMl := hM M rfl
      have hex2 : ∀ H : List Mem, H[1]? = some (.row (M.map encP1) 2 true) → exp expFuel H (.ref 1 0 (acc.length + 1) (acc.length + 1)) = some (.lst (M.map encP1)) := fun H hH => exp_full hH (by simp [hMl]) (encP1_plain _)
      have hrx2 : ∀ H : List Mem, H[1]? = some (.row (M.map encP1) 2 true) → rch expFuel H (.ref 1 0 (acc.length + 1) (acc.length + 1)) = [1] := fun H hH => rch_full hH (by
        intro c hc v hv
        obtain ⟨x, _, rfl⟩ := List.mem_map.1 hc
        simp only [encP1, enc2N, List.mem_cons, List.not_mem_nil, or_false] at hv
        rcases hv with rfl | rfl <;> exact ⟨_, _, rfl⟩) (by simp [hMl])
      have hex3 : ∀ H : List Mem, H[2]? = some (.row ((y :: acc).map encP2) 1 true) → exp expFuel H (.ref 2 0 (acc.length + 1) (acc.length + 1)) = some (.lst ((y :: acc).map encP2)) := fun H hH => exp_full hH (by simp) (encP2_plain _)
      have hrx3 : ∀ H : List Mem, H[2]? = some (.row ((y :: acc).map encP2) 1 true) → rch expFuel H (.ref 2 0 (acc.length + 1) (acc.length + 1)) = [2] := fun H hH => rch_full hH (by
        intro c hc v hv
        obtain ⟨x, _, rfl⟩ := List.mem_map.1 hc
        simp only [encP2, encN, List.mem_cons, List.not_mem_nil, or_false] at hv
        exact ⟨_, _, hv⟩) (by simp)
      simp only [List.map_cons] at hn1 hex3 hrx3 fM fL ⊢
      refine rn_rule (fn := Try.f44) (code := bodyOf Try.f44) ok44 Try.func44 (by kernel_rfl) (Nat.le_of_ble_eq_true (by kernel_rfl)) ?_
      simp (decide := true) (implicitDefEqProofs := false) only [Am.findLoop, Am.loopOf, Am.bodyOf, Am.firstReg, Nat.beq, cond_true, cond_false, Am.splice, Am.walkW, Am.stdW, id, reduceCtorEq, Nat.reduceAdd, Nat.reduceSub, Nat.reduceMul, List.forall_mem_cons, List.forall_mem_nil, false_implies, implies_true, Try.f44, factsOf44, hck, hex, hrx, hl0, he, hbs, hne, hnr, hlr, accG, accGH, List.replicate_succ, List.replicate_zero, buildSliceM, fillRow, freeze_cons, freeze1_O, frzO_row]
      simp only [holds_bind]
      refine (hjn _ ⟨Nat.zero_le _, trivial, fun _ _ => trivial⟩ ?_).mono ?_
      · show maskK (hints.keep 44 7) _ _ = _
        simp (decide := true) (implicitDefEqProofs := false) only [Am.findLoop, Am.loopOf, Am.bodyOf, Am.firstReg, Nat.beq, cond_true, cond_false, Am.splice, Am.walkW, Am.stdW, id, reduceCtorEq, Nat.reduceAdd, Nat.reduceSub, Nat.reduceMul, List.forall_mem_cons, List.forall_mem_nil, false_implies, implies_true, Try.f44, factsOf44, keep44_7, canonJn, rowN, fN, fM, fL, Am.compactK, Am.idsT, Am.closeStep, Am.keepW, Am.kstdW]
        rfl
      · rintro ⟨e, s'⟩ ⟨h5, h6⟩
        cases h5
        rw [keepB44_0] at h6
        simp only [List.length_cons] at h6
        cases ok with
        | true => simp (decide := true) (implicitDefEqProofs := false) only [Am.findLoop, Am.loopOf, Am.bodyOf, Am.firstReg, Nat.beq, cond_true, cond_false, Am.splice, Am.walkW, Am.stdW, id, reduceCtorEq, Nat.reduceAdd, Nat.reduceSub, Nat.reduceMul, List.forall_mem_cons, List.forall_mem_nil, false_implies, implies_true, Try.f44, factsOf44, h6, outJn, rowN, hl0, hne, hnr, n0e, n0r, pa, pb, ib, ic, hex2, hrx2, hex3, hrx3, hw1, hn1, w1, w2, wayV, freeze_cons, freeze1_O, frzO_row, List.map_cons]
        | false => simp (decide := true) (implicitDefEqProofs := false) only [Am.findLoop, Am.loopOf, Am.bodyOf, Am.firstReg, Nat.beq, cond_true, cond_false, Am.splice, Am.walkW, Am.stdW, id, reduceCtorEq, Nat.reduceAdd, Nat.reduceSub, Nat.reduceMul, List.forall_mem_cons, List.forall_mem_nil, false_implies, implies_true, Try.f44, factsOf44, h6, outJn, rowN, hl0, hne, hnr, n0e, n0r, pa, pb, ib, ic, hex2, hrx2, hw1, wayV, freeze_cons, freeze1_O, frzO_row, List.map_cons]
  · have hb' : decide (stE n [a, b] = 0) = false := decide_eq_false h0
    have hV : sJoinV n a b = .tup [.nils, .int .i64 (stE n [a, b])] := by unfold sJoinV; rw [if_pos h0]
    rw [hV]
    refine rn_rule (fn := Try.f44) (code := bodyOf Try.f44) ok44 Try.func44 (by kernel_rfl) (Nat.le_of_ble_eq_true (by kernel_rfl)) ?_
    simp (decide := true) (implicitDefEqProofs := false) only [Am.findLoop, Am.loopOf, Am.bodyOf, Am.firstReg, Nat.beq, cond_true, cond_false, Am.splice, Am.walkW, Am.stdW, id, reduceCtorEq, Nat.reduceAdd, Nat.reduceSub, Nat.reduceMul, List.forall_mem_cons, List.forall_mem_nil, false_implies, implies_true, Try.f44, factsOf44, hck, hex, hrx, hne, hnr, hb', List.replicate_succ, List.replicate_zero, buildSliceM, fillRow, freeze_cons, freeze1_O, frzO_row]
end Go.Proofs.Ytcclbkkgpcpikaa

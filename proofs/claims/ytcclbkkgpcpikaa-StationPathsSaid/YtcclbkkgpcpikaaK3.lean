import Derived.Test.YtcclbkkgpcpikaaK2
import Derived.Test.YtcclbkkgpcpikaaI5
set_option linter.unusedSimpArgs false
set_option linter.unusedVariables false
namespace Go.Proofs.Ytcclbkkgpcpikaa
open Go.Am
set_option maxRecDepth 100000
theorem greedy_lt {l : List (Nat × Nat)} {far : List Int} : ∀ (d v : Nat), ∀ k ∈ greedy l far d v, k < l.length
  | 0, v, k, h => by rw [greedy] at h; cases h
  | d + 1, v, k, h => by
    rw [greedy] at h
    cases hk : fndK l far v l.length 0 with
    | none => rw [hk] at h; cases h
    | some j =>
      rw [hk] at h
      have hj := fndK_some hk
      rcases List.mem_cons.1 h with rfl | h
      · unfold goodK at hj
        split at hj
        · rename_i x hx; exact (List.getElem?_eq_some_iff.1 hx).1
        · cases hj
      · exact greedy_lt d _ k h
theorem greedy_len {l : List (Nat × Nat)} {far : List Int} : ∀ (d v : Nat), (greedy l far d v).length ≤ d
  | 0, v => by rw [greedy]; exact Nat.le_refl 0
  | d + 1, v => by
    rw [greedy]
    cases hk : fndK l far v l.length 0 with
    | none => simp
    | some j => simp only [List.length_cons]; have := greedy_len (l := l) (far := far) d (oth (l.getD j (0, 0)) v); omega
theorem way_lt {n : Nat} {l : List (Nat × Nat)} {fr to : Nat} : ∀ k ∈ (wayR n l fr to).2, k < l.length := by
  unfold wayR
  split
  · intro k h; cases h
  · exact greedy_lt _ _
theorem way_len {n : Nat} {l : List (Nat × Nat)} {fr to : Nat} (hF : FarOk n l to (farF n l to)) (hfr : fr < n) : (wayR n l fr to).2.length ≤ 100 := by
  unfold wayR
  split
  · exact Nat.zero_le _
  · rename_i h
    refine Nat.le_trans (greedy_len _ _) ?_
    have hlt : fr < (farF n l to).length := by rw [hF.len]; exact hfr
    have hg : (farF n l to)[fr]? = some ((farF n l to).getD fr 0) := by rw [List.getD_eq_getElem?_getD, List.getElem?_eq_getElem hlt]; rfl
    have := hF.hi fr ((farF n l to).getD fr 0).toNat (by rw [hg, Int.toNat_of_nonneg (by omega)])
    exact this
theorem edgL_at (n : Net) (op : Bool) : ∀ (l : List Sw) (i : Nat), ∀ x ∈ edgL n op i l, i ≤ x.2 ∧ x.2 < i + l.length
  | [], i => by intro x h; rw [edgL] at h; cases h
  | s :: r, i => by
    intro x h
    have ih := edgL_at n op r (i + 1) x
    rw [edgL] at h
    split at h
    · rcases List.mem_cons.1 h with rfl | h
      · exact ⟨Nat.le_refl _, by simp only [List.length_cons]; omega⟩
      · have := ih h; simp only [List.length_cons]; omega
    · have := ih h; simp only [List.length_cons]; omega
def atL (n : Net) (op : Bool) : List Nat := (edgA n op).map (·.2)
theorem atL_lt (n : Net) (op : Bool) : ∀ j ∈ atL n op, j < n.sw.length := by
  intro j hj
  obtain ⟨x, hx, rfl⟩ := List.mem_map.1 hj
  have := edgL_at n op n.sw 0 x hx
  omega
theorem rch_strs {H : List Mem} {i k z : Nat} {es : List (List PV)} {b : Bool} (hH : H[i]? = some (.row es z b)) (h : ∀ c ∈ es, ∀ v ∈ c, ∃ s, v = PV.str s) (hl : es.length = k) : rch expFuel H (.ref i 0 k k) = [i] := by
  have e : es.flatMap (fun c => c.flatMap (rch (38 + 1) H)) = [] := by
    refine List.flatMap_eq_nil_iff.2 fun c hc => List.flatMap_eq_nil_iff.2 fun v hv => ?_
    obtain ⟨s, rfl⟩ := h c hc v hv
    rfl
  rw [rch40_ref, hH, rchO_row, List.drop_zero, List.take_of_length_le (by omega), e]
theorem encP2_plain (l : List ((Nat × Nat) × Nat)) : ∀ c ∈ l.map encP2, ∀ x ∈ c, Plain x := by
  intro c hc x hx
  obtain ⟨y, _, rfl⟩ := List.mem_map.1 hc
  simp only [encP2, encN, List.mem_cons, List.not_mem_nil, or_false] at hx
  subst hx
  exact plain_int _ _
noncomputable def sPathV (n : Net) (a b : ByteArray) : PV :=
  if stE n [a, b] ≠ 0 then .tup [.nils, .int .i64 (stE n [a, b])]
  else if (wayR n.nodes.length (closedL n) (plN n a) (plN n b)).1 = true then .tup [outG encS ((wayR n.nodes.length (closedL n) (plN n a) (plN n b)).2.map fun k => swNm n ((atL n false).getD k 0)), .int .i64 0]
  else .tup [.nils, .int .i64 8]
theorem chk_zero {n : Net} {a b : ByteArray} (h : stE n [a, b] = 0) : netE n = 0 ∧ memS a n.nodes = true ∧ memS b n.nodes = true := by
  unfold stE at h
  split at h
  · rename_i h'; exact absurd h h'
  · rename_i h'
    refine ⟨by simpa using h', ?_⟩
    split at h
    · rename_i h2; simpa [allM] using h2
    · cases h
set_option maxHeartbeats 16000000 in
theorem spath_call (n : Net) (q0 q1 q2 q3 q4 q5 : PV) (hq : NetQ n q0 q1 q2 q3 q4 q5) (a b : ByteArray) : pureCall hints L1 43 [.agg [q0, q1, q2, q3, q4, q5], .str a, .str b] = some (sPathV n a b) := by
  have hne := hq.exp
  have hnr := hq.rch
  have fN := hq.no
  unfold rowN at fN
  have hck := scheck_call n q0 q1 q2 q3 q4 q5 hq (.lst [[.str a], [.str b]]) [a, b] (.inr rfl) (by simp)
  have hex : ∀ H : List Mem, H[1]? = some (.row [[.str a], [.str b]] 1 true) → exp expFuel H (.ref 1 0 2 2) = some (.lst [[.str a], [.str b]]) := fun H hH => exp_full hH rfl (by
    intro c hc x hx
    simp only [List.mem_cons, List.not_mem_nil, or_false] at hc
    rcases hc with rfl | rfl <;> (simp only [List.mem_cons, List.not_mem_nil, or_false] at hx; subst hx; exact plain_str _))
  have hrx : ∀ H : List Mem, H[1]? = some (.row [[.str a], [.str b]] 1 true) → rch expFuel H (.ref 1 0 2 2) = [1] := fun H hH => rch_strs hH (by
    intro c hc x hx
    simp only [List.mem_cons, List.not_mem_nil, or_false] at hc
    rcases hc with rfl | rfl <;> (simp only [List.mem_cons, List.not_mem_nil, or_false] at hx; exact ⟨_, hx⟩)) rfl
  have hval : ∀ hp : List Mem, exp expFuel hp (sPathV n a b) = some (sPathV n a b) := by
    intro hp
    unfold sPathV
    split
    · rfl
    · split
      · generalize (wayR n.nodes.length (closedL n) (plN n a) (plN n b)).2.map (fun k => swNm n ((atL n false).getD k 0)) = w
        simp only [exp_tup, omap_cons', omap_nil', exp39_int, Option.bind_some]
        cases w <;> rfl
      · rfl
  refine pure_of prim43 (Holds.mono (Q := fun r => r.1 = sPathV n a b) ?_ fun r hr => by rw [hr]; exact hval _)
  by_cases h0 : stE n [a, b] = 0
  · obtain ⟨h1, h2, h3⟩ := chk_zero h0
    have hv := vnet h1
    rw [h0] at hck
    have hll := hv.ls
    have hln := hv.ln
    have hlm : n.nodes.length ≤ maxLen := by unfold maxLen; omega
    have pa := index_call q0 n.nodes hq.h0 a hlm
    have pb := index_call q0 n.nodes hq.h0 b hlm
    obtain ⟨pa1, pa2⟩ := plN_ok h2
    obtain ⟨pb1, pb2⟩ := plN_ok h3
    rw [pa1] at pa
    rw [pb1] at pb
    have hl0 := fun H => (lens hq H).1
    have n0e := fun H => hq.h0.plain.exp (H := H)
    have n0r := fun H => hq.h0.rch (H := H)
    have he := fun b => edges_imp n q0 q1 q2 q3 q4 q5 hq hv false b
    obtain ⟨ho1, ho2⟩ := edgA_ok hv false
    have hg := graphCheck_ok hln ho1 (by omega)
    have hF := farOk hln ho1 pb2
    have hwl := way_lt (n := n.nodes.length) (l := (edgA n false).map (·.1)) (fr := plN n a) (to := plN n b)
    have hwn := way_len hF pa2
    have hwy := fun q hq' => way_ok q ((edgA n false).map (·.1)) hq' n.nodes.length hln ho1 (by omega) hg (plN n a) (plN n b) pa2 pb2 hF
    have hV : sPathV n a b = if (wayR n.nodes.length ((edgA n false).map (·.1)) (plN n a) (plN n b)).1 = true then .tup [outG encS ((wayR n.nodes.length ((edgA n false).map (·.1)) (plN n a) (plN n b)).2.map fun k => swNm n (((edgA n false).map (·.2)).getD k 0)), .int .i64 0] else .tup [.nils, .int .i64 8] := by
      unfold sPathV
      rw [if_neg (by simpa using h0)]
      rfl
    rw [hV]
    have hat := atL_lt n false
    unfold atL at hat
    rw [List.length_map] at hwl
    generalize wayR n.nodes.length ((edgA n false).map (·.1)) (plN n a) (plN n b) = wy at *
    obtain ⟨ok, w⟩ := wy
    simp only at hwl hwn
    have hsl := outN_sl' w
    have hnm := fun qa hqa => snames_call n q0 q1 q2 q3 q4 q5 hq (outN w) qa w ((edgA n false).map (·.2)) hsl hqa (by omega) (by simpa using hwl) hat (by omega)
    have w1 := fun H => hsl.plain.exp (H := H)
    have w2 := fun H => hsl.rch (H := H)
    have g0 := hsl.ids
    generalize edgA n false = l at *
    cases l with
    | nil =>
      have hw1 := hwy .nils (.inl ⟨rfl, rfl⟩)
      have hn1 := hnm .nils (.inl ⟨rfl, rfl⟩)
      simp only [List.map_nil] at hw1 hn1 ⊢
      cases ok with
      | true =>
        refine rn_rule (fn := Try.f43) (code := bodyOf Try.f43) ok43 Try.func43 (by kernel_rfl) (Nat.le_of_ble_eq_true (by kernel_rfl)) ?_
        simp (decide := true) (implicitDefEqProofs := false) only [Am.findLoop, Am.loopOf, Am.bodyOf, Am.firstReg, Nat.beq, cond_true, cond_false, Am.splice, Am.walkW, Am.stdW, id, reduceCtorEq, Nat.reduceAdd, Nat.reduceSub, Nat.reduceMul, List.forall_mem_cons, List.forall_mem_nil, false_implies, implies_true, Try.f43, factsOf43, hck, hex, hrx, hl0, he, hne, hnr, n0e, n0r, pa, pb, hw1, hn1, w1, w2, wayV, accG, accGH, List.replicate_succ, List.replicate_zero, buildSliceM, fillRow, freeze_cons, freeze1_O, frzO_row]
      | false =>
        refine rn_rule (fn := Try.f43) (code := bodyOf Try.f43) ok43 Try.func43 (by kernel_rfl) (Nat.le_of_ble_eq_true (by kernel_rfl)) ?_
        simp (decide := true) (implicitDefEqProofs := false) only [Am.findLoop, Am.loopOf, Am.bodyOf, Am.firstReg, Nat.beq, cond_true, cond_false, Am.splice, Am.walkW, Am.stdW, id, reduceCtorEq, Nat.reduceAdd, Nat.reduceSub, Nat.reduceMul, List.forall_mem_cons, List.forall_mem_nil, false_implies, implies_true, Try.f43, factsOf43, hck, hex, hrx, hl0, he, hne, hnr, n0e, n0r, pa, pb, hw1, wayV, accG, accGH, List.replicate_succ, List.replicate_zero, buildSliceM, fillRow, freeze_cons, freeze1_O, frzO_row]
    | cons y acc =>
      have hw1 := hwy (.lst ((y :: acc).map encP1)) (.inr (by rw [List.map_map]; rfl))
      have hn1 := hnm (.lst ((y :: acc).map encP2)) (.inr (by rw [List.map_map]; rfl))
      have hex2 : ∀ H : List Mem, H[2]? = some (.row ((y :: acc).map encP1) 2 true) → exp expFuel H (.ref 2 0 (acc.length + 1) (acc.length + 1)) = some (.lst ((y :: acc).map encP1)) := fun H hH => exp_full hH (by simp) (encP1_plain _)
      have hrx2 : ∀ H : List Mem, H[2]? = some (.row ((y :: acc).map encP1) 2 true) → rch expFuel H (.ref 2 0 (acc.length + 1) (acc.length + 1)) = [2] := fun H hH => rch_full hH (by
        intro c hc v hv
        obtain ⟨x, _, rfl⟩ := List.mem_map.1 hc
        simp only [encP1, enc2N, List.mem_cons, List.not_mem_nil, or_false] at hv
        rcases hv with rfl | rfl <;> exact ⟨_, _, rfl⟩) (by simp)
      have hex3 : ∀ H : List Mem, H[3]? = some (.row ((y :: acc).map encP2) 1 true) → exp expFuel H (.ref 3 0 (acc.length + 1) (acc.length + 1)) = some (.lst ((y :: acc).map encP2)) := fun H hH => exp_full hH (by simp) (encP2_plain _)
      have hrx3 : ∀ H : List Mem, H[3]? = some (.row ((y :: acc).map encP2) 1 true) → rch expFuel H (.ref 3 0 (acc.length + 1) (acc.length + 1)) = [3] := fun H hH => rch_full hH (by
        intro c hc v hv
        obtain ⟨x, _, rfl⟩ := List.mem_map.1 hc
        simp only [encP2, encN, List.mem_cons, List.not_mem_nil, or_false] at hv
        exact ⟨_, _, hv⟩) (by simp)
      simp only [List.map_cons] at hw1 hn1 hex2 hrx2 hex3 hrx3 ⊢
      cases ok with
      | true =>
        refine rn_rule (fn := Try.f43) (code := bodyOf Try.f43) ok43 Try.func43 (by kernel_rfl) (Nat.le_of_ble_eq_true (by kernel_rfl)) ?_
        simp (decide := true) (implicitDefEqProofs := false) only [Am.findLoop, Am.loopOf, Am.bodyOf, Am.firstReg, Nat.beq, cond_true, cond_false, Am.splice, Am.walkW, Am.stdW, id, reduceCtorEq, Nat.reduceAdd, Nat.reduceSub, Nat.reduceMul, List.forall_mem_cons, List.forall_mem_nil, false_implies, implies_true, Try.f43, factsOf43, hck, hex, hrx, hex2, hrx2, hex3, hrx3, hl0, he, hne, hnr, n0e, n0r, pa, pb, hw1, hn1, w1, w2, wayV, accG, accGH, List.replicate_succ, List.replicate_zero, buildSliceM, fillRow, freeze_cons, freeze1_O, frzO_row]
      | false =>
        refine rn_rule (fn := Try.f43) (code := bodyOf Try.f43) ok43 Try.func43 (by kernel_rfl) (Nat.le_of_ble_eq_true (by kernel_rfl)) ?_
        simp (decide := true) (implicitDefEqProofs := false) only [Am.findLoop, Am.loopOf, Am.bodyOf, Am.firstReg, Nat.beq, cond_true, cond_false, Am.splice, Am.walkW, Am.stdW, id, reduceCtorEq, Nat.reduceAdd, Nat.reduceSub, Nat.reduceMul, List.forall_mem_cons, List.forall_mem_nil, false_implies, implies_true, Try.f43, factsOf43, hck, hex, hrx, hex2, hrx2, hl0, he, hne, hnr, n0e, n0r, pa, pb, hw1, wayV, accG, accGH, List.replicate_succ, List.replicate_zero, buildSliceM, fillRow, freeze_cons, freeze1_O, frzO_row]
  · have hb' : decide (stE n [a, b] = 0) = false := decide_eq_false h0
    have hV : sPathV n a b = .tup [.nils, .int .i64 (stE n [a, b])] := by unfold sPathV; rw [if_pos h0]
    rw [hV]
    refine rn_rule (fn := Try.f43) (code := bodyOf Try.f43) ok43 Try.func43 (by kernel_rfl) (Nat.le_of_ble_eq_true (by kernel_rfl)) ?_
    simp (decide := true) (implicitDefEqProofs := false) only [Am.findLoop, Am.loopOf, Am.bodyOf, Am.firstReg, Nat.beq, cond_true, cond_false, Am.splice, Am.walkW, Am.stdW, id, reduceCtorEq, Nat.reduceAdd, Nat.reduceSub, Nat.reduceMul, List.forall_mem_cons, List.forall_mem_nil, false_implies, implies_true, Try.f43, factsOf43, hck, hex, hrx, hne, hnr, hb', List.replicate_succ, List.replicate_zero, buildSliceM, fillRow, freeze_cons, freeze1_O, frzO_row]
end Go.Proofs.Ytcclbkkgpcpikaa

import Derived.Test.YtcclbkkgpcpikaaH9
import Derived.Test.YtcclbkkgpcpikaaG7
set_option linter.unusedSimpArgs false
set_option linter.unusedVariables false
namespace Go.Proofs.Ytcclbkkgpcpikaa
open Go.Am
set_option maxRecDepth 100000
/-! lists that are built -/
section
variable {α : Type}
noncomputable def accG (i : Nat) : List α → PV
  | [] => .nils
  | _ :: r => .ref i 0 (r.length + 1) (r.length + 1)
noncomputable def accGH (enc : α → List PV) (z : Nat) : List α → List Mem
  | [] => []
  | x :: r => [.row ((x :: r).map enc) z true]
noncomputable def outG (enc : α → List PV) : List α → PV
  | [] => .nils
  | x :: r => .lst ((x :: r).map enc)
theorem outG_sl (enc : α → List PV) (l : List α) : Sl (outG enc l) (l.map enc) := by
  cases l with
  | nil => exact .inl ⟨rfl, rfl⟩
  | cons x r => exact .inr rfl
theorem exp_accG {enc : α → List PV} {z : Nat} (he : ∀ x, ∀ v ∈ enc x, Plain v) (l : List α) (n : Nat) (i : Nat) {H : List Mem} (hi : i = 0) (hH : H = accGH enc z l) : exp (n + 2) H (accG i l) = some (outG enc l) := by
  subst hi
  subst hH
  cases l with
  | nil => rfl
  | cons x r =>
    show exp (n + 1 + 1) _ _ = _
    simp only [accG, accGH, exp_ref, List.getElem?_cons_zero, rowC, Nat.zero_add, List.length_map, List.length_cons, Nat.le_refl, if_true, List.drop_zero]
    rw [List.take_of_length_le (by simp), plainss]
    · rfl
    · intro c hc v hv
      obtain ⟨y, _, rfl⟩ := List.mem_map.1 hc
      exact he y v hv
theorem flatG {enc : α → List PV} (he : ∀ x, ∀ v ∈ enc x, noIds v = true) (l : List α) (z : Nat) (m : Bool) : flatM (.row (l.map enc) z m) = true := by
  apply flat_rows
  intro c hc v hv
  obtain ⟨x, _, rfl⟩ := List.mem_map.1 hc
  exact he x v hv
end
theorem enc2N_no (x : Nat × Nat) : ∀ v ∈ enc2N x, noIds v = true := by
  intro v hv
  simp only [enc2N, List.mem_cons, List.not_mem_nil, or_false] at hv
  rcases hv with rfl | rfl <;> rfl
theorem enc2N_plain (x : Nat × Nat) : ∀ v ∈ enc2N x, Plain v := by
  intro v hv
  simp only [enc2N, List.mem_cons, List.not_mem_nil, or_false] at hv
  rcases hv with rfl | rfl <;> exact plain_int _ _
/-! networks that are valid -/
def plN (n : Net) (s : ByteArray) : Nat := (placeI s n.nodes).toNat
structure VNet (n : Net) : Prop where
  ln : n.nodes.length ≤ 24
  ls : n.sw.length ≤ 32
  lb : n.br.length ≤ 24
  lg : n.gn.length ≤ 10
  ll : n.ld.length ≤ 12
  lo : n.so.length ≤ 4
  sw : ∀ x ∈ n.sw, memS x.a n.nodes = true ∧ memS x.b n.nodes = true
  br : ∀ x ∈ n.br, memS x.fr n.nodes = true ∧ memS x.to n.nodes = true
  gn : ∀ x ∈ n.gn, memS x.node n.nodes = true
  so : ∀ x ∈ n.so, memS x.node n.nodes = true
theorem devE_mem {nodes seen : List ByteArray} {name : ByteArray} {ns : List ByteArray} (h : devE nodes seen name ns = 0) : ∀ s ∈ ns, memS s nodes = true := by
  unfold devE at h
  intro s hs
  split at h
  · split at h
    · omega
    · split at h
      · rename_i h3
        exact List.all_eq_true.1 h3 s hs
      · omega
  · omega
theorem runIt_mem {nodes : List ByteArray} : ∀ {seen : List ByteArray} {l : List Item}, (runIt nodes seen l).1 = 0 → ∀ x ∈ l, ∀ s ∈ x.ns, memS s nodes = true
  | _, [], _, x, hx => by cases hx
  | seen, y :: l, h, x, hx => by
    rw [runIt] at h
    split at h
    · rename_i h0
      rcases List.mem_cons.1 hx with rfl | hx
      · unfold itE at h0
        split at h0
        · rename_i h1; exact devE_mem h1
        · exact devE_mem h0
      · exact runIt_mem h x hx
    · rename_i h0; exact absurd h h0
theorem vnet {n : Net} (h : netE n = 0) : VNet n := by
  unfold netE at h
  split at h
  · omega
  rename_i hl
  have hl' : large n = false := by simpa using hl
  simp only [large, Bool.or_eq_false_iff, decide_eq_false_iff_not] at hl'
  have hm := runIt_mem h
  refine ⟨by omega, by omega, by omega, by omega, by omega, by omega, ?_, ?_, ?_, ?_⟩
  · intro x hx
    have := hm (swIt x) (by simp only [List.mem_append, List.mem_map]; exact .inr (.inl ⟨x, hx, rfl⟩))
    exact ⟨this x.a (by simp [swIt]), this x.b (by simp [swIt])⟩
  · intro x hx
    have := hm (brIt x) (by simp only [List.mem_append, List.mem_map]; exact .inr (.inr (.inl ⟨x, hx, rfl⟩)))
    exact ⟨this x.fr (by simp [brIt]), this x.to (by simp [brIt])⟩
  · intro x hx
    exact hm (gnIt x) (by simp only [List.mem_append, List.mem_map]; exact .inr (.inr (.inr (.inl ⟨x, hx, rfl⟩)))) x.node (by simp [gnIt])
  · intro x hx
    exact hm (soIt x) (by simp only [List.mem_append, List.mem_map]; exact .inr (.inr (.inr (.inr (.inr ⟨x, hx, rfl⟩))))) x.node (by simp [soIt])
theorem placeFrom_lt (name : ByteArray) : ∀ (i : Nat) (l : List ByteArray) (k : Nat), placeFrom name i l = some k → k < i + l.length
  | _, [], _, h => by cases h
  | i, x :: r, k, h => by
    rw [placeFrom] at h
    split at h
    · cases h; simp
    · have := placeFrom_lt name (i + 1) r k h
      simp only [List.length_cons]; omega
theorem plN_ok {n : Net} {s : ByteArray} (h : memS s n.nodes = true) : placeI s n.nodes = (plN n s : Nat) ∧ plN n s < n.nodes.length := by
  have h0 := placeI_mem s n.nodes
  rw [h] at h0
  have h1 : 0 ≤ placeI s n.nodes := of_decide_eq_true h0
  refine ⟨by unfold plN; omega, ?_⟩
  unfold plN
  unfold placeI at h1 ⊢
  cases hp : placeFrom s 0 n.nodes with
  | none => rw [hp] at h1; simp at h1
  | some k =>
    have := placeFrom_lt s 0 n.nodes k hp
    simp only [Int.toNat_natCast]; omega
def swE (n : Net) (x : Sw) : Nat × Nat := (plN n x.a, plN n x.b)
def swL (n : Net) : List (Nat × Nat) := n.sw.map (swE n)
theorem swL_ok {n : Net} (hv : VNet n) : okL n.nodes.length (swL n) := by
  intro x hx
  obtain ⟨s, hs, rfl⟩ := List.mem_map.1 hx
  obtain ⟨h1, h2⟩ := hv.sw s hs
  exact ⟨(plN_ok h1).2, (plN_ok h2).2⟩
/-! one more than the greatest number -/
def mostF : Nat → List Nat → Nat
  | m, [] => m
  | m, x :: r => mostF (if m ≤ x then x + 1 else m) r
noncomputable def canonMo (q : PV) (len m i : Nat) : St := ⟨[(3, .int .i64 m), (6, q), (7, .int .i64 len), (8, .int .i64 i)], []⟩
def postMo (m : Nat) (r : Ex × St) : Prop := r.1 = .exit 0 ∧ maskK (hints.keepB 32 0) ⟨32, 0, 19⟩ r.2 = some ⟨[(3, .int .i64 m)], []⟩
set_option maxHeartbeats 4000000 in
theorem most_loop (q : PV) (l : List Nat) (hq : Sl q (l.map encN)) (hl : l.length ≤ 1000) (hb : ∀ x ∈ l, x ≤ 1000) : ∀ (a : Nat × Nat) (t : St), (a.1 ≤ l.length ∧ a.2 ≤ 2000) →
    maskK (hints.keep 32 (firstReg (loopOf Try.f32 3))) ⟨32, 0, 19⟩ t = some (canonMo q l.length a.2 a.1) →
    Holds (L1.ex ⟨32, 0, 19⟩ (.loop (loopOf Try.f32 3)) t) (postMo (mostF a.2 (l.drop a.1))) := by
  refine loop_rule (σ := Nat × Nat) (c := ⟨32, 0, 19⟩) (b := loopOf Try.f32 3) (fun a => canonMo q l.length a.2 a.1) (fun a => a.1 ≤ l.length ∧ a.2 ≤ 2000) (fun a => l.length - a.1) _ ?_
  rintro ⟨i, m⟩ ⟨hi, hm⟩
  simp only at hi hm
  obtain ⟨a1, a2, a3, a4, a5, a6, a7⟩ := hq.ids
  by_cases hlt : i < l.length
  · have hix := fun H => index_sl (P := Try.prog) (H := H) hq slZ24 (k := .i64) (j := i) (by omega) (by rw [Int.toNat_natCast]; exact getN hlt) rfl
    have hlt' : decide ((i : Int) < l.length) = true := decide_eq_true (by omega)
    have hw : IntKind.i64.wrap ((i : Int) + 1) = ((i + 1 : Nat) : Int) := wrap64 (by omega) (by omega)
    have hxb := hb _ (List.getElem_mem hlt)
    have hdr : mostF m (l.drop i) = mostF (if m ≤ l[i] then l[i] + 1 else m) (l.drop (i + 1)) := by rw [List.drop_eq_getElem_cons hlt, mostF]
    rw [hdr]
    generalize l[i] = x at hix hxb
    have hwx : IntKind.i64.wrap ((x : Int) + 1) = ((x + 1 : Nat) : Int) := wrap64 (by omega) (by omega)
    by_cases c : m ≤ x
    · have c' : decide ((m : Int) ≤ (x : Int)) = true := decide_eq_true (by omega)
      rw [if_pos c]
      simp (decide := true) (implicitDefEqProofs := false) only [Am.findLoop, Am.loopOf, Am.bodyOf, Am.firstReg, Nat.beq, cond_true, cond_false, Am.splice, Am.walkW, Am.stdW, id, reduceCtorEq, Nat.reduceAdd, Nat.reduceSub, Nat.reduceMul, List.forall_mem_cons, List.forall_mem_nil, false_implies, implies_true, Try.f32, factsOf32, canonMo, hix, hlt', hw, hwx, c', keep32_3, a1, a2, a3, a4, a5, a6, a7, Am.compactK, Am.idsT, Am.closeStep, Am.keepW, Am.kstdW]
      exact ⟨(i + 1, x + 1), rfl, ⟨hlt, by simp only; omega⟩, by simp only; omega, fun r hr => hr⟩
    · have c' : decide ((m : Int) ≤ (x : Int)) = false := decide_eq_false (by omega)
      rw [if_neg c]
      simp (decide := true) (implicitDefEqProofs := false) only [Am.findLoop, Am.loopOf, Am.bodyOf, Am.firstReg, Nat.beq, cond_true, cond_false, Am.splice, Am.walkW, Am.stdW, id, reduceCtorEq, Nat.reduceAdd, Nat.reduceSub, Nat.reduceMul, List.forall_mem_cons, List.forall_mem_nil, false_implies, implies_true, Try.f32, factsOf32, canonMo, hix, hlt', hw, c', keep32_3, a1, a2, a3, a4, a5, a6, a7, Am.compactK, Am.idsT, Am.closeStep, Am.keepW, Am.kstdW]
      exact ⟨(i + 1, m), rfl, ⟨hlt, hm⟩, by simp only; omega, fun r hr => hr⟩
  · have hlt' : decide ((i : Int) < l.length) = false := decide_eq_false (by omega)
    rw [List.drop_eq_nil_of_le (by omega)]
    simp (decide := true) (implicitDefEqProofs := false) only [Am.findLoop, Am.loopOf, Am.bodyOf, Am.firstReg, Nat.beq, cond_true, cond_false, Am.splice, Am.walkW, Am.stdW, id, reduceCtorEq, Nat.reduceAdd, Nat.reduceSub, Nat.reduceMul, List.forall_mem_cons, List.forall_mem_nil, false_implies, implies_true, Try.f32, factsOf32, canonMo, hlt', a7]
    refine ⟨rfl, ?_⟩
    simp (decide := true) (implicitDefEqProofs := false) only [Am.findLoop, Am.loopOf, Am.bodyOf, Am.firstReg, Nat.beq, cond_true, cond_false, Am.splice, Am.walkW, Am.stdW, id, reduceCtorEq, Nat.reduceAdd, Nat.reduceSub, Nat.reduceMul, List.forall_mem_cons, List.forall_mem_nil, false_implies, implies_true, Try.f32, factsOf32, mostF, a1, a2, a3, a4, a5, a6, a7, Am.compactK, Am.idsT, Am.closeStep, Am.keepW, Am.kstdW]
set_option maxHeartbeats 4000000 in
theorem most_call (q : PV) (l : List Nat) (hq : Sl q (l.map encN)) (hl : l.length ≤ 1000) (hb : ∀ x ∈ l, x ≤ 1000) : pureCall hints L1 32 [q] = some (.int .i64 (mostF 0 l)) := by
  refine pure_of prim32 (Holds.mono (Q := fun r => r.1 = .int .i64 (mostF 0 l)) ?_ fun r hr => by rw [hr]; rfl)
  have hlen := fun H => len_sl (P := Try.prog) (H := H) hq slZ24
  rw [List.length_map] at hlen
  obtain ⟨a1, a2, a3, a4, a5, a6, a7⟩ := hq.ids
  refine rn_rule (fn := Try.f32) (code := bodyOf Try.f32) ok32 Try.func32 (by kernel_rfl) (Nat.le_of_ble_eq_true (by kernel_rfl)) ?_
  simp (decide := true) (implicitDefEqProofs := false) only [Am.findLoop, Am.loopOf, Am.bodyOf, Am.firstReg, Nat.beq, cond_true, cond_false, Am.splice, Am.walkW, Am.stdW, id, reduceCtorEq, Nat.reduceAdd, Nat.reduceSub, Nat.reduceMul, List.forall_mem_cons, List.forall_mem_nil, false_implies, implies_true, Try.f32, factsOf32, hlen]
  simp only [holds_bind]
  refine (most_loop q l hq hl hb (0, 0) _ ⟨by omega, by omega⟩ ?_).mono ?_
  · show maskK (hints.keep 32 3) _ _ = _
    simp (decide := true) (implicitDefEqProofs := false) only [Am.findLoop, Am.loopOf, Am.bodyOf, Am.firstReg, Nat.beq, cond_true, cond_false, Am.splice, Am.walkW, Am.stdW, id, reduceCtorEq, Nat.reduceAdd, Nat.reduceSub, Nat.reduceMul, List.forall_mem_cons, List.forall_mem_nil, false_implies, implies_true, Try.f32, factsOf32, keep32_3, canonMo, a1, a2, a3, a4, a5, a6, a7, Am.compactK, Am.idsT, Am.closeStep, Am.keepW, Am.kstdW]
    rfl
  · rintro ⟨e, s'⟩ ⟨h5, h6⟩
    cases h5
    rw [keepB32_0] at h6
    simp only [List.drop_zero] at h6
    simp (decide := true) (implicitDefEqProofs := false) only [Am.findLoop, Am.loopOf, Am.bodyOf, Am.firstReg, Nat.beq, cond_true, cond_false, Am.splice, Am.walkW, Am.stdW, id, reduceCtorEq, Nat.reduceAdd, Nat.reduceSub, Nat.reduceMul, List.forall_mem_cons, List.forall_mem_nil, false_implies, implies_true, Try.f32, factsOf32, h6]
/-! the switches as edges -/
noncomputable def canonSt (q0 q1 q2 q3 q4 q5 : PV) (len i : Nat) (acc : List (Nat × Nat)) : St := ⟨[(1, .ptr 0 0 0), (3, accG 1 acc), (7, q1), (8, .int .i64 len), (9, .int .i64 i)], rowN q0 q1 q2 q3 q4 q5 :: accGH enc2N 2 acc⟩
def postSt (full : List (Nat × Nat)) (r : Ex × St) : Prop := r.1 = .exit 0 ∧ maskK (hints.keepB 47 0) ⟨47, 0, 29⟩ r.2 = some ⟨[(3, accG 0 full)], accGH enc2N 2 full⟩
theorem NetQ.no {n : Net} {q0 q1 q2 q3 q4 q5 : PV} (hq : NetQ n q0 q1 q2 q3 q4 q5) : flatM (rowN q0 q1 q2 q3 q4 q5) = true := by
  have h0 := hq.h0.ids.2.2.2.2.2.2
  have h1 := hq.h1.ids.2.2.2.2.2.2
  have h2 := hq.h2.ids.2.2.2.2.2.2
  have h3 := hq.h3.ids.2.2.2.2.2.2
  have h4 := hq.h4.ids.2.2.2.2.2.2
  have h5 := hq.h5.ids.2.2.2.2.2.2
  simp [rowN, flatM_row, h0, h1, h2, h3, h4, h5]
set_option maxHeartbeats 8000000 in
theorem switching_loop (n : Net) (q0 q1 q2 q3 q4 q5 : PV) (hq : NetQ n q0 q1 q2 q3 q4 q5) (hv : VNet n) : ∀ (a : Nat × List (Nat × Nat)) (t : St), (a.1 ≤ n.sw.length ∧ a.2.length ≤ a.1) →
    maskK (hints.keep 47 (firstReg (loopOf Try.f47 3))) ⟨47, 0, 29⟩ t = some (canonSt q0 q1 q2 q3 q4 q5 n.sw.length a.1 a.2) →
    Holds (L1.ex ⟨47, 0, 29⟩ (.loop (loopOf Try.f47 3)) t) (postSt (a.2 ++ (n.sw.drop a.1).map (swE n))) := by
  refine loop_rule (σ := Nat × List (Nat × Nat)) (c := ⟨47, 0, 29⟩) (b := loopOf Try.f47 3) (fun a => canonSt q0 q1 q2 q3 q4 q5 n.sw.length a.1 a.2) (fun a => a.1 ≤ n.sw.length ∧ a.2.length ≤ a.1) (fun a => n.sw.length - a.1) _ ?_
  rintro ⟨i, acc⟩ ⟨hi, hacc⟩
  simp only at hi hacc
  have hls := hv.ls
  have fN := hq.no
  unfold rowN at fN
  obtain ⟨b1, b2, b3, b4, b5, b6, b7⟩ := hq.h1.ids
  have n0e := fun H => hq.h0.plain.exp (H := H)
  have n0r := fun H => hq.h0.rch (H := H)
  by_cases hlt : i < n.sw.length
  · have hix := fun H => index_sl (P := Try.prog) (H := H) hq.h1 slZ42 (k := .i64) (j := i) (by omega) (encSw_get hlt) rfl
    have hlt' : decide ((i : Int) < n.sw.length) = true := decide_eq_true (by omega)
    have hw : IntKind.i64.wrap ((i : Int) + 1) = ((i + 1 : Nat) : Int) := wrap64 (by omega) (by omega)
    have hmem := hv.sw _ (List.getElem_mem hlt)
    have hdr : (n.sw.drop i).map (swE n) = swE n n.sw[i] :: (n.sw.drop (i + 1)).map (swE n) := by rw [List.drop_eq_getElem_cons hlt]; rfl
    rw [hdr]
    generalize n.sw[i] = x at hix hmem
    simp only [encSw] at hix
    have hln : n.nodes.length ≤ maxLen := by have := hv.ln; unfold maxLen; omega
    have pa := place_call q0 n.nodes hq.h0 x.a hln
    have pb := place_call q0 n.nodes hq.h0 x.b hln
    rw [(plN_ok hmem.1).1] at pa
    rw [(plN_ok hmem.2).1] at pb
    have hsx : swE n x = (plN n x.a, plN n x.b) := rfl
    rw [hsx]
    generalize plN n x.a = u at pa
    generalize plN n x.b = v at pb
    have bA := fun ps => build_array (P := Try.prog) arrOf29 ps
    cases acc with
    | nil =>
      have f1 : flatM (.row [[.int .i64 (u : Nat), .int .i64 (v : Nat)]] 2 true) = true := flatG enc2N_no [(u, v)] 2 true
      simp (decide := true) (implicitDefEqProofs := false) only [Am.findLoop, Am.loopOf, Am.bodyOf, Am.firstReg, Nat.beq, cond_true, cond_false, Am.splice, Am.walkW, Am.stdW, id, reduceCtorEq, Nat.reduceAdd, Nat.reduceSub, Nat.reduceMul, List.forall_mem_cons, List.forall_mem_nil, false_implies, implies_true, Try.f47, factsOf47, canonSt, rowN, accG, accGH, hix, hlt', hw, pa, pb, n0e, n0r, bA, fillAgg, fN, f1, appS_nil, List.replicate_succ, List.replicate_zero, buildSliceM, fillRow, appendF, appendH, src_lst, src_ref, elemsO_row, headOk_one, Nat.le_refl, keep47_3, b1, b2, b3, b4, b5, b6, b7, Am.compactK, Am.idsT, Am.closeStep, Am.keepW, Am.kstdW]
      exact ⟨(i + 1, [(u, v)]), rfl, ⟨hlt, by simp⟩, by simp only; omega, fun r hr => hr⟩
    | cons y acc =>
      have f1 := flatG enc2N_no (y :: acc) 2 true
      have f2 := flatG enc2N_no (y :: acc ++ [(u, v)]) 2 true
      have hap : ∀ H : List Mem, H[1]? = some (.row ((y :: acc).map enc2N) 2 true) → appendS H 2 16 (.ref 1 0 (acc.length + 1) (acc.length + 1)) [[.int .i64 (u : Nat), .int .i64 (v : Nat)]] = some (.ref H.length 0 (acc.length + 1 + 1) (acc.length + 1 + 1), H.set 1 .dead ++ [.row ((y :: acc ++ [(u, v)]).map enc2N) 2 true]) := by
        intro H hH
        rw [List.map_append]
        exact appS_full hH (by simp) (by simp only [List.length_cons] at hacc; omega) _
      simp only [List.map_cons, List.cons_append] at f1 f2 hap
      have hnx : ∀ r, postSt (y :: acc ++ [(u, v)] ++ (n.sw.drop (i + 1)).map (swE n)) r → postSt (y :: (acc ++ (u, v) :: (n.sw.drop (i + 1)).map (swE n))) r := fun r hr => by simpa using hr
      simp (decide := true) (implicitDefEqProofs := false) only [Am.findLoop, Am.loopOf, Am.bodyOf, Am.firstReg, Nat.beq, cond_true, cond_false, Am.splice, Am.walkW, Am.stdW, id, reduceCtorEq, Nat.reduceAdd, Nat.reduceSub, Nat.reduceMul, List.forall_mem_cons, List.forall_mem_nil, false_implies, implies_true, Try.f47, factsOf47, canonSt, rowN, accG, accGH, hix, hlt', hw, pa, pb, n0e, n0r, bA, fillAgg, fN, f1, f2, hap, List.replicate_succ, List.replicate_zero, buildSliceM, fillRow, appendF, appendH, src_lst, src_ref, elemsO_row, headOk_one, Nat.le_refl, keep47_3, b1, b2, b3, b4, b5, b6, b7, Am.compactK, Am.idsT, Am.closeStep, Am.keepW, Am.kstdW]
      exact ⟨(i + 1, y :: acc ++ [(u, v)]), by simp only [accG, accGH, List.cons_append, List.length_append, List.length_cons, List.length_nil, List.map_cons], ⟨hlt, by simp only [List.length_cons, List.length_append, List.length_nil] at hacc ⊢; omega⟩, by simp only; omega, hnx⟩
  · have hlt' : decide ((i : Int) < n.sw.length) = false := decide_eq_false (by omega)
    rw [List.drop_eq_nil_of_le (by omega), List.map_nil, List.append_nil]
    cases acc with
    | nil =>
      simp (decide := true) (implicitDefEqProofs := false) only [Am.findLoop, Am.loopOf, Am.bodyOf, Am.firstReg, Nat.beq, cond_true, cond_false, Am.splice, Am.walkW, Am.stdW, id, reduceCtorEq, Nat.reduceAdd, Nat.reduceSub, Nat.reduceMul, List.forall_mem_cons, List.forall_mem_nil, false_implies, implies_true, Try.f47, factsOf47, canonSt, rowN, accG, accGH, hlt', b7]
      refine ⟨rfl, ?_⟩
      simp (decide := true) (implicitDefEqProofs := false) only [Am.findLoop, Am.loopOf, Am.bodyOf, Am.firstReg, Nat.beq, cond_true, cond_false, Am.splice, Am.walkW, Am.stdW, id, reduceCtorEq, Nat.reduceAdd, Nat.reduceSub, Nat.reduceMul, List.forall_mem_cons, List.forall_mem_nil, false_implies, implies_true, Try.f47, factsOf47, accG, accGH, fN, b1, b2, b3, b7, Am.compactK, Am.idsT, Am.closeStep, Am.keepW, Am.kstdW]
    | cons y acc =>
      have f1 := flatG enc2N_no (y :: acc) 2 true
      simp only [List.map_cons] at f1
      simp (decide := true) (implicitDefEqProofs := false) only [Am.findLoop, Am.loopOf, Am.bodyOf, Am.firstReg, Nat.beq, cond_true, cond_false, Am.splice, Am.walkW, Am.stdW, id, reduceCtorEq, Nat.reduceAdd, Nat.reduceSub, Nat.reduceMul, List.forall_mem_cons, List.forall_mem_nil, false_implies, implies_true, Try.f47, factsOf47, canonSt, rowN, accG, accGH, hlt', b7]
      refine ⟨rfl, ?_⟩
      simp (decide := true) (implicitDefEqProofs := false) only [Am.findLoop, Am.loopOf, Am.bodyOf, Am.firstReg, Nat.beq, cond_true, cond_false, Am.splice, Am.walkW, Am.stdW, id, reduceCtorEq, Nat.reduceAdd, Nat.reduceSub, Nat.reduceMul, List.forall_mem_cons, List.forall_mem_nil, false_implies, implies_true, Try.f47, factsOf47, accG, accGH, fN, f1, b1, b2, b3, b7, Am.compactK, Am.idsT, Am.closeStep, Am.keepW, Am.kstdW]
theorem NetQ.exp {n : Net} {q0 q1 q2 q3 q4 q5 : PV} (hq : NetQ n q0 q1 q2 q3 q4 q5) (H : List Mem) : exp expFuel H (.agg [q0, q1, q2, q3, q4, q5]) = some (.agg [q0, q1, q2, q3, q4, q5]) := by
  apply exp_agg
  intro c hc
  simp only [List.mem_cons, List.not_mem_nil, or_false] at hc
  rcases hc with rfl | rfl | rfl | rfl | rfl | rfl
  · exact hq.h0.plain
  · exact hq.h1.plain
  · exact hq.h2.plain
  · exact hq.h3.plain
  · exact hq.h4.plain
  · exact hq.h5.plain
theorem agg_rch40 {H : List Mem} (cs : List PV) : rch expFuel H (.agg cs) = cs.flatMap (rch 39 H) := rfl
theorem sl_rch39 {q : PV} {es : List (List PV)} (hq : Sl q es) {H : List Mem} : rch 39 H q = [] := by
  rcases hq with ⟨rfl, _⟩ | rfl <;> rfl
theorem NetQ.rch {n : Net} {q0 q1 q2 q3 q4 q5 : PV} (hq : NetQ n q0 q1 q2 q3 q4 q5) (H : List Mem) : rch expFuel H (.agg [q0, q1, q2, q3, q4, q5]) = [] := by
  rw [agg_rch40]
  simp [sl_rch39 hq.h0, sl_rch39 hq.h1, sl_rch39 hq.h2, sl_rch39 hq.h3, sl_rch39 hq.h4, sl_rch39 hq.h5]
set_option maxHeartbeats 8000000 in
theorem switching_run (n : Net) (q0 q1 q2 q3 q4 q5 : PV) (hq : NetQ n q0 q1 q2 q3 q4 q5) (hv : VNet n) : Holds (L1.rn 47 [.agg [q0, q1, q2, q3, q4, q5]] []) (fun r => r = (accG 0 (swL n), accGH enc2N 2 (swL n))) := by
  obtain ⟨l0, l1, l2, l3, l4, l5⟩ := lens hq []
  have hl1 := fun H => (lens hq H).2.1
  have fN := hq.no
  unfold rowN at fN
  obtain ⟨b1, b2, b3, b4, b5, b6, b7⟩ := hq.h1.ids
  refine rn_rule (fn := Try.f47) (code := bodyOf Try.f47) ok47 Try.func47 (by kernel_rfl) (Nat.le_of_ble_eq_true (by kernel_rfl)) ?_
  simp (decide := true) (implicitDefEqProofs := false) only [Am.findLoop, Am.loopOf, Am.bodyOf, Am.firstReg, Nat.beq, cond_true, cond_false, Am.splice, Am.walkW, Am.stdW, id, reduceCtorEq, Nat.reduceAdd, Nat.reduceSub, Nat.reduceMul, List.forall_mem_cons, List.forall_mem_nil, false_implies, implies_true, Try.f47, factsOf47, hl1]
  simp only [holds_bind]
  refine (switching_loop n q0 q1 q2 q3 q4 q5 hq hv (0, []) _ ⟨by omega, by simp⟩ ?_).mono ?_
  · show maskK (hints.keep 47 3) _ _ = _
    simp (decide := true) (implicitDefEqProofs := false) only [Am.findLoop, Am.loopOf, Am.bodyOf, Am.firstReg, Nat.beq, cond_true, cond_false, Am.splice, Am.walkW, Am.stdW, id, reduceCtorEq, Nat.reduceAdd, Nat.reduceSub, Nat.reduceMul, List.forall_mem_cons, List.forall_mem_nil, false_implies, implies_true, Try.f47, factsOf47, keep47_3, canonSt, rowN, accG, accGH, fN, b1, b2, b3, b4, b5, b6, b7, Am.compactK, Am.idsT, Am.closeStep, Am.keepW, Am.kstdW]
    rfl
  · rintro ⟨e, s'⟩ ⟨h5, h6⟩
    cases h5
    rw [keepB47_0] at h6
    simp only [List.drop_zero, List.nil_append] at h6
    simp (decide := true) (implicitDefEqProofs := false) only [Am.findLoop, Am.loopOf, Am.bodyOf, Am.firstReg, Nat.beq, cond_true, cond_false, Am.splice, Am.walkW, Am.stdW, id, reduceCtorEq, Nat.reduceAdd, Nat.reduceSub, Nat.reduceMul, List.forall_mem_cons, List.forall_mem_nil, false_implies, implies_true, Try.f47, factsOf47, h6]
    rfl
/-- Rows of numbers as own memory of a caller. -/
theorem int_rows {α : Type} {enc : α → List PV} (he : ∀ x, ∀ v ∈ enc x, ∃ k : Int, v = .int .i64 k) (base : Nat) (l : List α) (z : Nat) : shM base (.row (l.map enc) z true) = .row (l.map enc) z true ∧ okMs (.row (l.map enc) z true) = true ∧ selfM (.row (l.map enc) z true) = true := by
  refine ⟨?_, ?_, ?_⟩
  · simp only [shM]
    congr 1
    conv => rhs; rw [← List.map_id (l.map enc)]
    refine List.map_congr_left fun c hc => ?_
    obtain ⟨x, _, rfl⟩ := List.mem_map.1 hc
    conv => rhs; rw [id, ← List.map_id (enc x)]
    refine List.map_congr_left fun v hv => ?_
    obtain ⟨k, rfl⟩ := he x v hv
    rfl
  · simp only [okMs, List.all_eq_true]
    intro c hc v hv
    obtain ⟨x, _, rfl⟩ := List.mem_map.1 hc
    obtain ⟨k, rfl⟩ := he x v hv
    rfl
  · simp only [selfM, List.all_eq_true]
    intro c hc v hv
    obtain ⟨x, _, rfl⟩ := List.mem_map.1 hc
    obtain ⟨k, rfl⟩ := he x v hv
    rfl
theorem enc2N_int (x : Nat × Nat) : ∀ v ∈ enc2N x, ∃ k : Int, v = .int .i64 k := by
  intro v hv
  simp only [enc2N, List.mem_cons, List.not_mem_nil, or_false] at hv
  rcases hv with rfl | rfl <;> exact ⟨_, rfl⟩
theorem switching_imp (n : Net) (q0 q1 q2 q3 q4 q5 : PV) (hq : NetQ n q0 q1 q2 q3 q4 q5) (hv : VNet n) (base : Nat) : impCall L1 47 [.agg [q0, q1, q2, q3, q4, q5]] base = some (accG base (swL n), accGH enc2N 2 (swL n), true) := by
  obtain ⟨r, hr, rfl⟩ := switching_run n q0 q1 q2 q3 q4 q5 hq hv
  generalize swL n = l at hr
  cases l with
  | nil =>
    rw [imp_of (v := .nils) (hp := []) hr rfl rfl (fun y => rfl) rfl rfl base]
    rfl
  | cons y acc =>
    have f1 := flatG enc2N_no (y :: acc) 2 true
    obtain ⟨s1, s2, s3⟩ := int_rows enc2N_int base (y :: acc) 2
    rw [imp_of (v := .ref 0 0 (acc.length + 1) (acc.length + 1)) (hp := [.row ((y :: acc).map enc2N) 2 true]) hr rfl ?_ (fun y => rfl) rfl ?_ base]
    · simp only [List.map_cons, List.map_nil, List.all_cons, List.all_nil] at s1 s3 ⊢
      simp only [s1, s3, accG, accGH, sh, sh1, selfP, self1, List.map_cons, Bool.and_true, Bool.and_self, Nat.add_zero]
    · simp only [List.map_cons] at f1
      simp (decide := true) only [accG, accGH, List.map_cons, f1, Am.compactK, Am.idsT, Am.closeStep, Am.keepW, Am.kstdW, Am.splice, Am.walkW, Am.stdW, id, reduceCtorEq, Nat.reduceAdd, Nat.reduceSub, Nat.reduceMul, List.forall_mem_cons, List.forall_mem_nil, false_implies, implies_true]
    · simp only [List.all_cons, List.all_nil, s2, Bool.and_self]
end Go.Proofs.Ytcclbkkgpcpikaa

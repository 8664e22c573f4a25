/-
  The plain law of buses and islands.
-/
import Derived.Test.YtcclbkkgpcpikaaJ3
set_option linter.unusedSimpArgs false
set_option linter.unusedVariables false
namespace Go.Proofs.Ytcclbkkgpcpikaa
/-! numberings that grow by one -/
def Rgs (n : Nat) (f : Nat → Nat) : Prop := ∀ i, i < n → ∀ v, v < f i → ∃ k, k < i ∧ f k = v
theorem rgs_unique {n : Nat} {f g : Nat → Nat} (hf : Rgs n f) (hg : Rgs n g) (h : ∀ i k, i < n → k < n → (f i = f k ↔ g i = g k)) : ∀ i, i < n → f i = g i := by
  intro i
  induction i using Nat.strongRecOn with
  | _ i ih =>
    intro hi
    apply Classical.byContradiction
    intro hne
    rcases Nat.lt_or_gt_of_ne hne with hl | hl
    · obtain ⟨k, hk, he⟩ := hg i hi (f i) hl
      rw [← ih k hk (by omega)] at he
      have := (h k i (by omega) hi).1 he
      rw [← this, ← ih k hk (by omega)] at hl
      omega
    · obtain ⟨k, hk, he⟩ := hf i hi (g i) hl
      rw [ih k hk (by omega)] at he
      have := (h k i (by omega) hi).2 he
      rw [← this, ih k hk (by omega)] at hl
      omega
theorem num_hit (R : Nat → Nat → Bool) : ∀ i v, v < num R i → ∃ j, j < i ∧ isFst R j = true ∧ num R j = v
  | 0, v, h => by simp [num] at h
  | i + 1, v, h => by
    rw [num_succ] at h
    by_cases hv : v < num R i
    · obtain ⟨j, h1, h2⟩ := num_hit R i v hv
      exact ⟨j, by omega, h2⟩
    · split at h
      · rename_i hf
        exact ⟨i, by omega, hf, by omega⟩
      · omega
theorem num_mono (R : Nat → Nat → Bool) {a b : Nat} (hab : a < b) (ha : isFst R a = true) : num R a < num R b := by
  have : ∀ d, num R (a + 1) ≤ num R (a + 1 + d) := by
    intro d
    induction d with
    | zero => exact Nat.le_refl _
    | succ d ih => rw [← Nat.add_assoc]; exact Nat.le_trans ih (by rw [num_succ R (a + 1 + d)]; omega)
  have h1 := this (b - (a + 1))
  rw [num_succ, if_pos ha, show a + 1 + (b - (a + 1)) = b by omega] at h1
  omega
section
variable {n : Nat} {R : Nat → Nat → Bool} {P : Nat → Nat → Prop}
theorem isNum_fst (hR : ∀ i k, i < n → k < n → (R i k = true ↔ P i k)) (hrf : ∀ v, P v v) (htr : ∀ a b c, P a b → P b c → P a c) {f : Nat → Int} (hf : IsNum n R f) {i : Nat} (hi : i < n) : ∃ k, k ≤ i ∧ P k i ∧ isFst R k = true ∧ f i = num R k := by
  obtain ⟨k, h1, h2, h3⟩ := ex_fst hR hrf htr i hi
  refine ⟨k, h1, h2, h3, ?_⟩
  by_cases e : k = i
  · subst e; exact hf.fst k hi h3
  · rw [hf.same i k hi (by omega) ((hR k i (by omega) hi).2 h2)]
    exact hf.fst k (by omega) h3
theorem isNum_ker (hR : ∀ i k, i < n → k < n → (R i k = true ↔ P i k)) (hrf : ∀ v, P v v) (hsy : ∀ a b, P a b → P b a) (htr : ∀ a b c, P a b → P b c → P a c) {f : Nat → Int} (hf : IsNum n R f) {i k : Nat} (hi : i < n) (hk : k < n) : f i = f k ↔ P i k := by
  obtain ⟨a, a1, a2, a3, a4⟩ := isNum_fst hR hrf htr hf hi
  obtain ⟨b, b1, b2, b3, b4⟩ := isNum_fst hR hrf htr hf hk
  rw [a4, b4]
  constructor
  · intro h
    have : a = b := by
      apply Classical.byContradiction
      intro hne
      rcases Nat.lt_or_gt_of_ne hne with hl | hl
      · have := num_mono R hl a3; omega
      · have := num_mono R hl b3; omega
    subst this
    exact htr _ _ _ (hsy _ _ a2) b2
  · intro h
    have : a = b := by
      apply Classical.byContradiction
      intro hne
      have hab : P a b := htr _ _ _ (htr _ _ _ a2 h) (hsy _ _ b2)
      rcases Nat.lt_or_gt_of_ne hne with hl | hl
      · exact (fst_iff hR (by omega)).1 b3 a hl hab
      · exact (fst_iff hR (by omega)).1 a3 b hl (hsy _ _ hab)
    rw [this]
theorem isNum_rgs (hR : ∀ i k, i < n → k < n → (R i k = true ↔ P i k)) (hrf : ∀ v, P v v) (htr : ∀ a b c, P a b → P b c → P a c) {g : Nat → Nat} (hf : IsNum n R fun i => (g i : Int)) : Rgs n g := by
  intro i hi v hv
  obtain ⟨a, a1, a2, a3, a4⟩ := isNum_fst hR hrf htr hf hi
  obtain ⟨j, h1, h2, h3⟩ := num_hit R a v (by omega)
  refine ⟨j, by omega, ?_⟩
  have := hf.fst j (by omega) h2
  omega
theorem isNum_le (hR : ∀ i k, i < n → k < n → (R i k = true ↔ P i k)) (hrf : ∀ v, P v v) (htr : ∀ a b c, P a b → P b c → P a c) {g : Nat → Nat} (hf : IsNum n R fun i => (g i : Int)) {i : Nat} (hi : i < n) : g i ≤ i := by
  obtain ⟨a, a1, a2, a3, a4⟩ := isNum_fst hR hrf htr hf hi
  have : ∀ j, num R j ≤ j := by
    intro j
    induction j with
    | zero => simp [num]
    | succ j ih => rw [num_succ]; split <;> omega
  have := this a
  omega
end
/-! buses -/
theorem edgL_mem (n : Net) (op : Bool) (x : Nat × Nat) : ∀ (l : List Sw) (i : Nat), x ∈ (edgL n op i l).map (·.1) ↔ ∃ s ∈ l, s.opn = op ∧ x = swE n s
  | [], _ => by simp [edgL]
  | s :: r, i => by
    rw [edgL]
    have ih := edgL_mem n op x r (i + 1)
    split
    · rename_i h
      rw [List.map_cons, List.mem_cons, ih]
      constructor
      · rintro (rfl | ⟨t, ht, h1⟩)
        · exact ⟨s, List.mem_cons_self, h, rfl⟩
        · exact ⟨t, List.mem_cons_of_mem _ ht, h1⟩
      · rintro ⟨t, ht, h1, h2⟩
        rcases List.mem_cons.1 ht with rfl | ht
        · exact .inl h2
        · exact .inr ⟨t, ht, h1, h2⟩
    · rename_i h
      rw [ih]
      constructor
      · rintro ⟨t, ht, h1⟩; exact ⟨t, List.mem_cons_of_mem _ ht, h1⟩
      · rintro ⟨t, ht, h1, h2⟩
        rcases List.mem_cons.1 ht with rfl | ht
        · exact absurd h1 h
        · exact ⟨t, ht, h1, h2⟩
theorem adj_mem {l : List (Nat × Nat)} {u v : Nat} : Adj (useOf (-1)) l u v ↔ ∃ x ∈ l, (x.1 = u ∧ x.2 = v) ∨ (x.2 = u ∧ x.1 = v) := by
  constructor
  · rintro ⟨k, x, h1, _, h3⟩; exact ⟨x, List.mem_of_getElem? h1, h3⟩
  · rintro ⟨x, h1, h3⟩
    obtain ⟨k, hk⟩ := List.getElem?_of_mem h1
    exact ⟨k, x, hk, by simp only [useOf, Bool.not_eq_true', decide_eq_false_iff_not]; omega, h3⟩
theorem adj_used {n : Net} {u v : Nat} : Adj (usedC n) (swL n) u v ↔ ∃ s ∈ n.sw, s.opn = false ∧ (((swE n s).1 = u ∧ (swE n s).2 = v) ∨ ((swE n s).2 = u ∧ (swE n s).1 = v)) := by
  constructor
  · rintro ⟨k, x, h1, h2, h3⟩
    rw [swL, List.getElem?_map] at h1
    unfold usedC at h2
    cases hs : n.sw[k]? with
    | none => rw [hs] at h1; cases h1
    | some s =>
      rw [hs] at h1 h2
      simp only [Option.map_some, Option.some.injEq] at h1
      subst h1
      exact ⟨s, List.mem_of_getElem? hs, by simpa using h2, h3⟩
  · rintro ⟨s, h1, h2, h3⟩
    obtain ⟨k, hk⟩ := List.getElem?_of_mem h1
    exact ⟨k, swE n s, by rw [swL, List.getElem?_map, hk]; rfl, by unfold usedC; rw [hk]; simp [h2], h3⟩
theorem rch_closed (n : Net) (u v : Nat) : Rch (useOf (-1)) (closedL n) u v ↔ Rch (usedC n) (swL n) u v := by
  have ha : ∀ u v, Adj (useOf (-1)) (closedL n) u v ↔ Adj (usedC n) (swL n) u v := by
    intro u v
    rw [adj_mem, adj_used]
    constructor
    · rintro ⟨x, h1, h2⟩
      obtain ⟨s, hs, h3, rfl⟩ := (edgL_mem n false x n.sw 0).1 h1
      exact ⟨s, hs, h3, h2⟩
    · rintro ⟨s, hs, h3, h2⟩
      exact ⟨swE n s, (edgL_mem n false _ n.sw 0).2 ⟨s, hs, h3, rfl⟩, h2⟩
  constructor
  · intro h
    induction h with
    | refl => exact .refl _
    | step _ h ih => exact ih.step ((ha _ _).1 h)
  · intro h
    induction h with
    | refl => exact .refl _
    | step _ h ih => exact ih.step ((ha _ _).2 h)
theorem isNum_congr {n : Nat} {R R' : Nat → Nat → Bool} (h : ∀ i k, i < n → k < n → R i k = R' i k) {f : Nat → Int} (hf : IsNum n R f) : IsNum n R' f := by
  have h1 : ∀ i, i < n → isFst R i = isFst R' i := by
    intro i hi
    unfold isFst
    rw [Bool.eq_iff_iff, List.all_eq_true, List.all_eq_true]
    constructor
    · intro hx k hk
      have hk' : k < i := by simpa using hk
      rw [← h k i (by omega) hi]; exact hx k hk
    · intro hx k hk
      have hk' : k < i := by simpa using hk
      rw [h k i (by omega) hi]; exact hx k hk
  have h2 : ∀ i, i ≤ n → num R i = num R' i := by
    intro i
    induction i with
    | zero => intro _; rfl
    | succ i ih => intro hi; rw [num_succ, num_succ, ih (by omega), h1 i (by omega)]
  refine ⟨fun i k hi hk hr => hf.same i k hi hk (by rw [h k i (by omega) hi]; exact hr), fun i hi hx => by rw [hf.fst i hi (by rw [h1 i hi]; exact hx), h2 i (by omega)]⟩
section
variable {n : Net} (hv : VNet n)
include hv
theorem bus_num : (busF n).length = n.nodes.length ∧ IsNum n.nodes.length (gt (joinedF (usedC n) n.nodes.length (swL n))) fun v => ((busF n).getD v 0 : Nat) := numbersF_num (swL_ok hv)
theorem bus_iff {i k : Nat} (hi : i < n.nodes.length) (hk : k < n.nodes.length) : (busF n).getD i 0 = (busF n).getD k 0 ↔ Rch (usedC n) (swL n) i k := by
  have := isNum_ker (fun i k hi hk => joined_rch (swL_ok hv) hi hk) (fun v => .refl v) (fun _ _ => Rch.symm) (fun _ _ _ => Rch.trans) (bus_num hv).2 hi hk
  rw [← this]; omega
theorem bus_rgs : Rgs n.nodes.length fun i => (busF n).getD i 0 := isNum_rgs (fun i k hi hk => joined_rch (swL_ok hv) hi hk) (fun v => .refl v) (fun _ _ _ => Rch.trans) (bus_num hv).2
theorem bus_le {i : Nat} (hi : i < n.nodes.length) : (busF n).getD i 0 ≤ i := isNum_le (fun i k hi hk => joined_rch (swL_ok hv) hi hk) (fun v => .refl v) (fun _ _ _ => Rch.trans) (bus_num hv).2 hi
/-- The program's buses are the reference's. -/
theorem bus_eq : partsF (-1) (closedL n) n.nodes.length = (busF n).map Int.ofNat := by
  have ho1 : okL n.nodes.length (closedL n) := (edgA_ok hv false).1
  have h1 : IsNum n.nodes.length (gt (joinedF (useOf (-1)) n.nodes.length (closedL n))) fun v => (partsF (-1) (closedL n) n.nodes.length).getD v 0 := partsF_num (wo := -1) ho1
  obtain ⟨h2, h3⟩ := bus_num hv
  have h4 := isNum_congr (R' := gt (joinedF (usedC n) n.nodes.length (swL n))) (fun i k hi hk => by
    rw [Bool.eq_iff_iff, joined_rch ho1 hi hk, joined_rch (swL_ok hv) hi hk]
    exact rch_closed n i k) h1
  have h5 := isNum_unique h4 h3
  apply List.ext_getElem?
  intro v
  by_cases hvn : v < n.nodes.length
  · have := h5 v hvn
    simp only [List.getD_eq_getElem?_getD] at this
    rw [List.getElem?_map, List.getElem?_eq_getElem (by rw [partsF_len]; exact hvn), List.getElem?_eq_getElem (by omega)] at *
    simp only [Option.getD_some] at this
    simp only [Option.map_some, this]; rfl
  · rw [List.getElem?_eq_none (by rw [partsF_len]; omega), List.getElem?_eq_none (by rw [List.length_map]; omega)]
end
/-! islands -/
def bAt (n : Net) (s : ByteArray) : Nat := (busF n).getD (plN n s) 0
def brB (n : Net) : List (Nat × Nat) := n.br.map fun x => (bAt n x.fr, bAt n x.to)
def brN (n : Net) : List (Nat × Nat) := n.br.map fun x => (plN n x.fr, plN n x.to)
def usedT (n : Net) (i : Nat) : Bool := decide (n.sw.length ≤ i) || usedC n i
def allL (n : Net) : List (Nat × Nat) := swL n ++ brN n
def manyF (n : Net) : Nat := mostF 0 (busF n)
def partF (n : Net) : List Nat := numbersF (joinedF (usedT n) n.nodes.length (allL n)) n.nodes.length
def isleF (n : Net) : List Nat := numbersF (joinedF (useOf (-1)) (manyF n) (brB n)) (manyF n)
theorem mostF_ge : ∀ (l : List Nat) (m : Nat), m ≤ mostF m l ∧ ∀ x ∈ l, x < mostF m l
  | [], m => ⟨Nat.le_refl m, fun x hx => by cases hx⟩
  | y :: r, m => by
    rw [mostF]
    obtain ⟨h1, h2⟩ := mostF_ge r (if m ≤ y then y + 1 else m)
    refine ⟨Nat.le_trans (by split <;> omega) h1, ?_⟩
    intro x hx
    rcases List.mem_cons.1 hx with rfl | hx
    · refine Nat.lt_of_lt_of_le ?_ h1
      split <;> omega
    · exact h2 x hx
theorem mostF_hit : ∀ (l : List Nat) (m : Nat), mostF m l = m ∨ ∃ x ∈ l, mostF m l = x + 1
  | [], m => .inl rfl
  | y :: r, m => by
    rw [mostF]
    rcases mostF_hit r (if m ≤ y then y + 1 else m) with h | ⟨x, hx, h⟩
    · rw [h]
      split
      · exact .inr ⟨y, List.mem_cons_self, rfl⟩
      · exact .inl rfl
    · exact .inr ⟨x, List.mem_cons_of_mem _ hx, h⟩
theorem getD_mem {l : List Nat} {i : Nat} (hi : i < l.length) : l.getD i 0 ∈ l := by
  rw [List.getD_eq_getElem?_getD, List.getElem?_eq_getElem hi]; exact List.getElem_mem hi
theorem mem_getD {l : List Nat} {x : Nat} (hx : x ∈ l) : ∃ i, i < l.length ∧ l.getD i 0 = x := by
  obtain ⟨i, hi⟩ := List.getElem?_of_mem hx
  exact ⟨i, (List.getElem?_eq_some_iff.1 hi).1, by rw [List.getD_eq_getElem?_getD, hi]; rfl⟩
theorem adjT {n : Net} {u v : Nat} : Adj (usedT n) (allL n) u v ↔ Adj (usedC n) (swL n) u v ∨ Adj (useOf (-1)) (brN n) u v := by
  have hl : (swL n).length = n.sw.length := by simp [swL]
  constructor
  · rintro ⟨k, x, h1, h2, h3⟩
    by_cases hk : k < n.sw.length
    · left
      rw [allL, List.getElem?_append_left (by omega)] at h1
      refine ⟨k, x, h1, ?_, h3⟩
      simp only [usedT, Bool.or_eq_true, decide_eq_true_eq] at h2
      rcases h2 with h2 | h2
      · omega
      · exact h2
    · right
      rw [allL, List.getElem?_append_right (by omega)] at h1
      exact adj_mem.2 ⟨x, List.mem_of_getElem? h1, h3⟩
  · rintro (⟨k, x, h1, h2, h3⟩ | h)
    · have hk := (List.getElem?_eq_some_iff.1 h1).1
      exact ⟨k, x, by rw [allL, List.getElem?_append_left hk, h1], by simp [usedT, h2], h3⟩
    · obtain ⟨x, hx, h3⟩ := adj_mem.1 h
      obtain ⟨k, hk⟩ := List.getElem?_of_mem hx
      exact ⟨n.sw.length + k, x, by rw [allL, List.getElem?_append_right (by omega), hl, Nat.add_sub_cancel_left, hk], by simp [usedT], h3⟩
theorem rch_T {n : Net} {i k : Nat} (h : Rch (usedC n) (swL n) i k) : Rch (usedT n) (allL n) i k := by
  induction h with
  | refl => exact .refl _
  | step _ ha ih => exact ih.step (adjT.2 (.inl ha))
section
variable {n : Net} (hv : VNet n)
include hv
theorem bus_lt {i : Nat} (hi : i < n.nodes.length) : (busF n).getD i 0 < manyF n := (mostF_ge (busF n) 0).2 _ (getD_mem (by rw [(bus_num hv).1]; exact hi))
theorem bus_hit {b : Nat} (hb : b < manyF n) : ∃ i, i < n.nodes.length ∧ (busF n).getD i 0 = b := by
  rcases mostF_hit (busF n) 0 with h | ⟨x, hx, h⟩
  · rw [manyF, h] at hb; omega
  · obtain ⟨i, hi, he⟩ := mem_getD hx
    rw [(bus_num hv).1] at hi
    rw [manyF, h] at hb
    by_cases e : b = x
    · exact ⟨i, hi, by rw [he, e]⟩
    · obtain ⟨k, hk, h2⟩ := bus_rgs hv i hi b (by simp only [he]; omega)
      exact ⟨k, by omega, h2⟩
theorem many_le : manyF n ≤ n.nodes.length := by
  rcases mostF_hit (busF n) 0 with h | ⟨x, hx, h⟩
  · rw [manyF, h]; omega
  · obtain ⟨i, hi, he⟩ := mem_getD hx
    rw [(bus_num hv).1] at hi
    have := bus_le hv hi
    rw [manyF, h]; omega
theorem brB_ok : okL (manyF n) (brB n) := by
  intro x hx
  obtain ⟨b, hb, rfl⟩ := List.mem_map.1 hx
  obtain ⟨m1, m2⟩ := hv.br b hb
  exact ⟨bus_lt hv (plN_ok m1).2, bus_lt hv (plN_ok m2).2⟩
theorem allL_ok : okL n.nodes.length (allL n) := by
  intro x hx
  rcases List.mem_append.1 hx with hx | hx
  · exact swL_ok hv x hx
  · obtain ⟨b, hb, rfl⟩ := List.mem_map.1 hx
    obtain ⟨m1, m2⟩ := hv.br b hb
    exact ⟨(plN_ok m1).2, (plN_ok m2).2⟩
theorem rchT_bus {i k : Nat} (h : Rch (usedT n) (allL n) i k) : Rch (useOf (-1)) (brB n) ((busF n).getD i 0) ((busF n).getD k 0) := by
  induction h with
  | refl => exact .refl _
  | @step v w hr ha ih =>
    rcases adjT.1 ha with ha | ha
    · have hlt := ha.lt (swL_ok hv)
      have : (busF n).getD v 0 = (busF n).getD w 0 := (bus_iff hv hlt.1 hlt.2).2 ((Rch.refl _).step ha)
      rw [← this]; exact ih
    · refine ih.step (adj_mem.2 ?_)
      obtain ⟨x, hx, h3⟩ := adj_mem.1 ha
      obtain ⟨b, hb, rfl⟩ := List.mem_map.1 hx
      refine ⟨_, List.mem_map.2 ⟨b, hb, rfl⟩, ?_⟩
      rcases h3 with ⟨rfl, rfl⟩ | ⟨rfl, rfl⟩
      · exact .inl ⟨rfl, rfl⟩
      · exact .inr ⟨rfl, rfl⟩
theorem bus_rchT {b c : Nat} (h : Rch (useOf (-1)) (brB n) b c) : ∀ i k, i < n.nodes.length → k < n.nodes.length → (busF n).getD i 0 = b → (busF n).getD k 0 = c → Rch (usedT n) (allL n) i k := by
  induction h with
  | refl => intro i k hi hk h1 h2; exact rch_T ((bus_iff hv hi hk).1 (by rw [h1, h2]))
  | @step v w hr ha ih =>
    intro i k hi hk h1 h2
    obtain ⟨x, hx, h3⟩ := adj_mem.1 ha
    obtain ⟨b, hb, rfl⟩ := List.mem_map.1 hx
    obtain ⟨m1, m2⟩ := hv.br b hb
    have p1 := (plN_ok m1).2
    have p2 := (plN_ok m2).2
    rcases h3 with ⟨e1, e2⟩ | ⟨e1, e2⟩
    · have r1 := ih i (plN n b.fr) hi p1 h1 e1
      have r2 : Rch (usedT n) (allL n) (plN n b.to) k := rch_T ((bus_iff hv p2 hk).1 (by rw [h2, ← e2]; rfl))
      exact (r1.step (adjT.2 (.inr (adj_mem.2 ⟨_, List.mem_map.2 ⟨b, hb, rfl⟩, .inl ⟨rfl, rfl⟩⟩)))).trans r2
    · have r1 := ih i (plN n b.to) hi p2 h1 e1
      have r2 : Rch (usedT n) (allL n) (plN n b.fr) k := rch_T ((bus_iff hv p1 hk).1 (by rw [h2, ← e2]; rfl))
      exact (r1.step (adjT.2 (.inr (adj_mem.2 ⟨_, List.mem_map.2 ⟨b, hb, rfl⟩, .inr ⟨rfl, rfl⟩⟩)))).trans r2
theorem isle_num : (isleF n).length = manyF n ∧ IsNum (manyF n) (gt (joinedF (useOf (-1)) (manyF n) (brB n))) fun v => ((isleF n).getD v 0 : Nat) := numbersF_num (brB_ok hv)
theorem part_num : (partF n).length = n.nodes.length ∧ IsNum n.nodes.length (gt (joinedF (usedT n) n.nodes.length (allL n))) fun v => ((partF n).getD v 0 : Nat) := numbersF_num (allL_ok hv)
/-- The island of a node is that of its bus. -/
theorem isle_part {i : Nat} (hi : i < n.nodes.length) : (isleF n).getD ((busF n).getD i 0) 0 = (partF n).getD i 0 := by
  have r1 := isNum_rgs (fun i k hi hk => joined_rch (brB_ok hv) hi hk) (fun v => .refl v) (fun _ _ _ => Rch.trans) (isle_num hv).2
  have r2 := isNum_rgs (fun i k hi hk => joined_rch (allL_ok hv) hi hk) (fun v => .refl v) (fun _ _ _ => Rch.trans) (part_num hv).2
  have r3 : Rgs n.nodes.length fun i => (isleF n).getD ((busF n).getD i 0) 0 := by
    intro i hi v hvv
    obtain ⟨b, hb, he⟩ := r1 _ (bus_lt hv hi) v hvv
    obtain ⟨k, hk, h2⟩ := bus_rgs hv i hi b hb
    exact ⟨k, hk, by simp only at h2 ⊢; rw [h2]; exact he⟩
  refine rgs_unique r3 r2 ?_ i hi
  intro i k hi hk
  have k1 := isNum_ker (fun i k hi hk => joined_rch (brB_ok hv) hi hk) (fun v => .refl v) (fun _ _ => Rch.symm) (fun _ _ _ => Rch.trans) (isle_num hv).2 (bus_lt hv hi) (bus_lt hv hk)
  have k2 := isNum_ker (fun i k hi hk => joined_rch (allL_ok hv) hi hk) (fun v => .refl v) (fun _ _ => Rch.symm) (fun _ _ _ => Rch.trans) (part_num hv).2 hi hk
  have e1 : ((isleF n).getD ((busF n).getD i 0) 0 = (isleF n).getD ((busF n).getD k 0) 0) ↔ Rch (useOf (-1)) (brB n) ((busF n).getD i 0) ((busF n).getD k 0) := by rw [← k1]; omega
  have e2 : ((partF n).getD i 0 = (partF n).getD k 0) ↔ Rch (usedT n) (allL n) i k := by rw [← k2]; omega
  rw [e1, e2]
  exact ⟨fun h => bus_rchT hv h i k hi hk rfl rfl, fun h => rchT_bus hv h⟩
end
end Go.Proofs.Ytcclbkkgpcpikaa

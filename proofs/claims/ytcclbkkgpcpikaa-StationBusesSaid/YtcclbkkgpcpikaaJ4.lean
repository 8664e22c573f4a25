/-
  The plain law of buses and islands.
-/
import Derived.Test.YtcclbkkgpcpikaaJ3
set_option linter.unusedSimpArgs false
set_option linter.unusedVariables false
namespace Go.Proofs.Ytcclbkkgpcpikaa
/-! numberings that grow by one -/
def Rgs (n : Nat) (f : Nat → Nat) : Prop := ∀ i, i < n → ∀ v, v < f i → ∃ k, k < i ∧ f k = v
theorem num_hit (R : Nat → Nat → Bool) : ∀ i v, v < num R i → ∃ j, j < i ∧ isFst R j = true ∧ num R j = v
  | 0, v, h => by simp [num] at h
  | i + 1, v, h => by
    rw [num_succ] at h
    by_cases hv : v < num R i
    · obtain ⟨j, h1, h2⟩ := num_hit R i v hv
      exact ⟨j, by omega, h2⟩
    · split at h
      · rename_i hf
        exact ⟨i, by omega, hf, by omega⟩
      · omega
section
variable {n : Nat} {R : Nat → Nat → Bool} {P : Nat → Nat → Prop}
theorem isNum_fst (hR : ∀ i k, i < n → k < n → (R i k = true ↔ P i k)) (hrf : ∀ v, P v v) (htr : ∀ a b c, P a b → P b c → P a c) {f : Nat → Int} (hf : IsNum n R f) {i : Nat} (hi : i < n) : ∃ k, k ≤ i ∧ P k i ∧ isFst R k = true ∧ f i = num R k := by
  obtain ⟨k, h1, h2, h3⟩ := ex_fst hR hrf htr i hi
  refine ⟨k, h1, h2, h3, ?_⟩
  by_cases e : k = i
  · subst e; exact hf.fst k hi h3
  · rw [hf.same i k hi (by omega) ((hR k i (by omega) hi).2 h2)]
    exact hf.fst k (by omega) h3
theorem isNum_rgs (hR : ∀ i k, i < n → k < n → (R i k = true ↔ P i k)) (hrf : ∀ v, P v v) (htr : ∀ a b c, P a b → P b c → P a c) {g : Nat → Nat} (hf : IsNum n R fun i => (g i : Int)) : Rgs n g := by
  intro i hi v hv
  obtain ⟨a, a1, a2, a3, a4⟩ := isNum_fst hR hrf htr hf hi
  obtain ⟨j, h1, h2, h3⟩ := num_hit R a v (by omega)
  refine ⟨j, by omega, ?_⟩
  have := hf.fst j (by omega) h2
  omega
theorem isNum_le (hR : ∀ i k, i < n → k < n → (R i k = true ↔ P i k)) (hrf : ∀ v, P v v) (htr : ∀ a b c, P a b → P b c → P a c) {g : Nat → Nat} (hf : IsNum n R fun i => (g i : Int)) {i : Nat} (hi : i < n) : g i ≤ i := by
  obtain ⟨a, a1, a2, a3, a4⟩ := isNum_fst hR hrf htr hf hi
  have : ∀ j, num R j ≤ j := by
    intro j
    induction j with
    | zero => simp [num]
    | succ j ih => rw [num_succ]; split <;> omega
  have := this a
  omega
end
/-! buses -/
theorem edgL_mem (n : Net) (op : Bool) (x : Nat × Nat) : ∀ (l : List Sw) (i : Nat), x ∈ (edgL n op i l).map (·.1) ↔ ∃ s ∈ l, s.opn = op ∧ x = swE n s
  | [], _ => by simp [edgL]
  | s :: r, i => by
    rw [edgL]
    have ih := edgL_mem n op x r (i + 1)
    split
    · rename_i h
      rw [List.map_cons, List.mem_cons, ih]
      constructor
      · rintro (rfl | ⟨t, ht, h1⟩)
        · exact ⟨s, List.mem_cons_self, h, rfl⟩
        · exact ⟨t, List.mem_cons_of_mem _ ht, h1⟩
      · rintro ⟨t, ht, h1, h2⟩
        rcases List.mem_cons.1 ht with rfl | ht
        · exact .inl h2
        · exact .inr ⟨t, ht, h1, h2⟩
    · rename_i h
      rw [ih]
      constructor
      · rintro ⟨t, ht, h1⟩; exact ⟨t, List.mem_cons_of_mem _ ht, h1⟩
      · rintro ⟨t, ht, h1, h2⟩
        rcases List.mem_cons.1 ht with rfl | ht
        · exact absurd h1 h
        · exact ⟨t, ht, h1, h2⟩
theorem adj_mem {l : List (Nat × Nat)} {u v : Nat} : Adj (useOf (-1)) l u v ↔ ∃ x ∈ l, (x.1 = u ∧ x.2 = v) ∨ (x.2 = u ∧ x.1 = v) := by
  constructor
  · rintro ⟨k, x, h1, _, h3⟩; exact ⟨x, List.mem_of_getElem? h1, h3⟩
  · rintro ⟨x, h1, h3⟩
    obtain ⟨k, hk⟩ := List.getElem?_of_mem h1
    exact ⟨k, x, hk, by simp only [useOf, Bool.not_eq_true', decide_eq_false_iff_not]; omega, h3⟩
theorem adj_used {n : Net} {u v : Nat} : Adj (usedC n) (swL n) u v ↔ ∃ s ∈ n.sw, s.opn = false ∧ (((swE n s).1 = u ∧ (swE n s).2 = v) ∨ ((swE n s).2 = u ∧ (swE n s).1 = v)) := by
  constructor
  · rintro ⟨k, x, h1, h2, h3⟩
    rw [swL, List.getElem?_map] at h1
    unfold usedC at h2
    cases hs : n.sw[k]? with
    | none => rw [hs] at h1; cases h1
    | some s =>
      rw [hs] at h1 h2
      simp only [Option.map_some, Option.some.injEq] at h1
      subst h1
      exact ⟨s, List.mem_of_getElem? hs, by simpa using h2, h3⟩
  · rintro ⟨s, h1, h2, h3⟩
    obtain ⟨k, hk⟩ := List.getElem?_of_mem h1
    exact ⟨k, swE n s, by rw [swL, List.getElem?_map, hk]; rfl, by unfold usedC; rw [hk]; simp [h2], h3⟩
theorem rch_closed (n : Net) (u v : Nat) : Rch (useOf (-1)) (closedL n) u v ↔ Rch (usedC n) (swL n) u v := by
  have ha : ∀ u v, Adj (useOf (-1)) (closedL n) u v ↔ Adj (usedC n) (swL n) u v := by
    intro u v
    rw [adj_mem, adj_used]
    constructor
    · rintro ⟨x, h1, h2⟩
      obtain ⟨s, hs, h3, rfl⟩ := (edgL_mem n false x n.sw 0).1 h1
      exact ⟨s, hs, h3, h2⟩
    · rintro ⟨s, hs, h3, h2⟩
      exact ⟨swE n s, (edgL_mem n false _ n.sw 0).2 ⟨s, hs, h3, rfl⟩, h2⟩
  constructor
  · intro h
    induction h with
    | refl => exact .refl _
    | step _ h ih => exact ih.step ((ha _ _).1 h)
  · intro h
    induction h with
    | refl => exact .refl _
    | step _ h ih => exact ih.step ((ha _ _).2 h)
theorem isNum_congr {n : Nat} {R R' : Nat → Nat → Bool} (h : ∀ i k, i < n → k < n → R i k = R' i k) {f : Nat → Int} (hf : IsNum n R f) : IsNum n R' f := by
  have h1 : ∀ i, i < n → isFst R i = isFst R' i := by
    intro i hi
    unfold isFst
    rw [Bool.eq_iff_iff, List.all_eq_true, List.all_eq_true]
    constructor
    · intro hx k hk
      have hk' : k < i := by simpa using hk
      rw [← h k i (by omega) hi]; exact hx k hk
    · intro hx k hk
      have hk' : k < i := by simpa using hk
      rw [h k i (by omega) hi]; exact hx k hk
  have h2 : ∀ i, i ≤ n → num R i = num R' i := by
    intro i
    induction i with
    | zero => intro _; rfl
    | succ i ih => intro hi; rw [num_succ, num_succ, ih (by omega), h1 i (by omega)]
  refine ⟨fun i k hi hk hr => hf.same i k hi hk (by rw [h k i (by omega) hi]; exact hr), fun i hi hx => by rw [hf.fst i hi (by rw [h1 i hi]; exact hx), h2 i (by omega)]⟩
section
variable {n : Net} (hv : VNet n)
include hv
theorem bus_num : (busF n).length = n.nodes.length ∧ IsNum n.nodes.length (gt (joinedF (usedC n) n.nodes.length (swL n))) fun v => ((busF n).getD v 0 : Nat) := numbersF_num (swL_ok hv)
theorem bus_rgs : Rgs n.nodes.length fun i => (busF n).getD i 0 := isNum_rgs (fun i k hi hk => joined_rch (swL_ok hv) hi hk) (fun v => .refl v) (fun _ _ _ => Rch.trans) (bus_num hv).2
theorem bus_le {i : Nat} (hi : i < n.nodes.length) : (busF n).getD i 0 ≤ i := isNum_le (fun i k hi hk => joined_rch (swL_ok hv) hi hk) (fun v => .refl v) (fun _ _ _ => Rch.trans) (bus_num hv).2 hi
/-- The program's buses are the reference's. -/
theorem bus_eq : partsF (-1) (closedL n) n.nodes.length = (busF n).map Int.ofNat := by
  have ho1 : okL n.nodes.length (closedL n) := (edgA_ok hv false).1
  have h1 : IsNum n.nodes.length (gt (joinedF (useOf (-1)) n.nodes.length (closedL n))) fun v => (partsF (-1) (closedL n) n.nodes.length).getD v 0 := partsF_num (wo := -1) ho1
  obtain ⟨h2, h3⟩ := bus_num hv
  have h4 := isNum_congr (R' := gt (joinedF (usedC n) n.nodes.length (swL n))) (fun i k hi hk => by
    rw [Bool.eq_iff_iff, joined_rch ho1 hi hk, joined_rch (swL_ok hv) hi hk]
    exact rch_closed n i k) h1
  have h5 := isNum_unique h4 h3
  apply List.ext_getElem?
  intro v
  by_cases hvn : v < n.nodes.length
  · have := h5 v hvn
    simp only [List.getD_eq_getElem?_getD] at this
    rw [List.getElem?_map, List.getElem?_eq_getElem (by rw [partsF_len]; exact hvn), List.getElem?_eq_getElem (by omega)] at *
    simp only [Option.getD_some] at this
    simp only [Option.map_some, this]; rfl
  · rw [List.getElem?_eq_none (by rw [partsF_len]; omega), List.getElem?_eq_none (by rw [List.length_map]; omega)]
end
/-! islands -/
def manyF (n : Net) : Nat := mostF 0 (busF n)
theorem mostF_ge : ∀ (l : List Nat) (m : Nat), m ≤ mostF m l ∧ ∀ x ∈ l, x < mostF m l
  | [], m => ⟨Nat.le_refl m, fun x hx => by cases hx⟩
  | y :: r, m => by
    rw [mostF]
    obtain ⟨h1, h2⟩ := mostF_ge r (if m ≤ y then y + 1 else m)
    refine ⟨Nat.le_trans (by split <;> omega) h1, ?_⟩
    intro x hx
    rcases List.mem_cons.1 hx with rfl | hx
    · refine Nat.lt_of_lt_of_le ?_ h1
      split <;> omega
    · exact h2 x hx
theorem mostF_hit : ∀ (l : List Nat) (m : Nat), mostF m l = m ∨ ∃ x ∈ l, mostF m l = x + 1
  | [], m => .inl rfl
  | y :: r, m => by
    rw [mostF]
    rcases mostF_hit r (if m ≤ y then y + 1 else m) with h | ⟨x, hx, h⟩
    · rw [h]
      split
      · exact .inr ⟨y, List.mem_cons_self, rfl⟩
      · exact .inl rfl
    · exact .inr ⟨x, List.mem_cons_of_mem _ hx, h⟩
theorem getD_mem {l : List Nat} {i : Nat} (hi : i < l.length) : l.getD i 0 ∈ l := by
  rw [List.getD_eq_getElem?_getD, List.getElem?_eq_getElem hi]; exact List.getElem_mem hi
theorem mem_getD {l : List Nat} {x : Nat} (hx : x ∈ l) : ∃ i, i < l.length ∧ l.getD i 0 = x := by
  obtain ⟨i, hi⟩ := List.getElem?_of_mem hx
  exact ⟨i, (List.getElem?_eq_some_iff.1 hi).1, by rw [List.getD_eq_getElem?_getD, hi]; rfl⟩
section
variable {n : Net} (hv : VNet n)
include hv
theorem bus_lt {i : Nat} (hi : i < n.nodes.length) : (busF n).getD i 0 < manyF n := (mostF_ge (busF n) 0).2 _ (getD_mem (by rw [(bus_num hv).1]; exact hi))
theorem bus_hit {b : Nat} (hb : b < manyF n) : ∃ i, i < n.nodes.length ∧ (busF n).getD i 0 = b := by
  rcases mostF_hit (busF n) 0 with h | ⟨x, hx, h⟩
  · rw [manyF, h] at hb; omega
  · obtain ⟨i, hi, he⟩ := mem_getD hx
    rw [(bus_num hv).1] at hi
    rw [manyF, h] at hb
    by_cases e : b = x
    · exact ⟨i, hi, by rw [he, e]⟩
    · obtain ⟨k, hk, h2⟩ := bus_rgs hv i hi b (by simp only [he]; omega)
      exact ⟨k, by omega, h2⟩
end
end Go.Proofs.Ytcclbkkgpcpikaa

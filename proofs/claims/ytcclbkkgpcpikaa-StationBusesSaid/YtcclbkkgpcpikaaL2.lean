/-
  Nodes by buses; own memory of an outer row with rows, numbered anew.
-/
import Derived.Test.YtcclbkkgpcpikaaK9
import Derived.Test.YtcclbkkgpcpikaaAmC
set_option linter.unusedSimpArgs false
set_option linter.unusedVariables false
namespace Go.Proofs.Ytcclbkkgpcpikaa
open Go.Am
set_option maxRecDepth 100000
/-! the groups -/
def addG (G : List (List ByteArray)) (b : Nat) (s : ByteArray) : List (List ByteArray) := if b = G.length then G ++ [[s]] else G.set b (G.getD b [] ++ [s])
def grpF (f : Nat → Nat) (nm : Nat → ByteArray) : Nat → List (List ByteArray)
  | 0 => []
  | i + 1 => addG (grpF f nm i) (f i) (nm i)
def grpN (f : Nat → Nat) (nm : Nat → ByteArray) (i v : Nat) : List ByteArray := ((List.range i).filter fun k => f k == v).map nm
theorem grpN_succ (f : Nat → Nat) (nm : Nat → ByteArray) (i v : Nat) : grpN f nm (i + 1) v = grpN f nm i v ++ if f i = v then [nm i] else [] := by
  unfold grpN
  rw [List.range_succ, List.filter_append, List.map_append]
  congr 1
  by_cases h : f i = v
  · rw [if_pos h, List.filter_cons_of_pos (by simpa using h)]; rfl
  · rw [if_neg h, List.filter_cons_of_neg (by simpa using h)]; rfl
theorem grpN_none {f : Nat → Nat} {nm : Nat → ByteArray} {i v : Nat} (h : ¬ ∃ k, k < i ∧ f k = v) : grpN f nm i v = [] := by
  unfold grpN
  rw [List.filter_eq_nil_iff.2, List.map_nil]
  intro k hk
  simp only [beq_iff_eq]
  exact fun e => h ⟨k, by simpa using hk, e⟩
theorem grp_ok {N : Nat} {f : Nat → Nat} {nm : Nat → ByteArray} (h : Rgs N f) : ∀ i, i ≤ N → (∀ v, v < (grpF f nm i).length ↔ ∃ k, k < i ∧ f k = v) ∧ ∀ v, v < (grpF f nm i).length → (grpF f nm i).getD v [] = grpN f nm i v
  | 0, _ => ⟨fun v => ⟨fun h => by simp [grpF] at h, fun ⟨k, hk, _⟩ => by omega⟩, fun v h => by simp [grpF] at h⟩
  | i + 1, hi => by
    obtain ⟨h1, h2⟩ := grp_ok (nm := nm) h i (by omega)
    have hb : f i ≤ (grpF f nm i).length := by
      rcases Nat.lt_or_ge (grpF f nm i).length (f i) with hlt | hge
      · obtain ⟨k, hk, e⟩ := h i (by omega) _ hlt
        exact absurd ((h1 _).2 ⟨k, hk, e⟩) (by omega)
      · exact hge
    show (∀ v, v < (addG _ _ _).length ↔ _) ∧ ∀ v, v < (addG _ _ _).length → (addG _ _ _).getD v [] = _
    unfold addG
    by_cases e : f i = (grpF f nm i).length
    · rw [if_pos e]
      refine ⟨fun v => ?_, fun v hv => ?_⟩
      · rw [List.length_append, List.length_singleton]
        constructor
        · intro hv
          by_cases e' : v = f i
          · exact ⟨i, by omega, e'.symm⟩
          · obtain ⟨k, hk, ek⟩ := (h1 v).1 (by omega)
            exact ⟨k, by omega, ek⟩
        · rintro ⟨k, hk, rfl⟩
          by_cases e' : k = i
          · subst e'; omega
          · have := (h1 (f k)).2 ⟨k, by omega, rfl⟩; omega
      · rw [List.length_append, List.length_singleton] at hv
        rw [grpN_succ]
        by_cases e' : v = f i
        · subst e'
          rw [if_pos rfl, grpN_none (fun ⟨k, hk, ek⟩ => by have := (h1 (f i)).2 ⟨k, hk, ek⟩; omega), List.getD_eq_getElem?_getD, e, List.getElem?_append_right (Nat.le_refl _), Nat.sub_self]; rfl
        · rw [if_neg (fun x => e' x.symm), List.append_nil, ← h2 v (by omega), List.getD_eq_getElem?_getD, List.getElem?_append_left (by omega), List.getD_eq_getElem?_getD]
    · rw [if_neg e]
      refine ⟨fun v => ?_, fun v hv => ?_⟩
      · rw [List.length_set]
        constructor
        · intro hv
          obtain ⟨k, hk, ek⟩ := (h1 v).1 hv
          exact ⟨k, by omega, ek⟩
        · rintro ⟨k, hk, rfl⟩
          by_cases e' : k = i
          · subst e'; omega
          · exact (h1 (f k)).2 ⟨k, by omega, rfl⟩
      · rw [List.length_set] at hv
        rw [grpN_succ]
        by_cases e' : v = f i
        · subst e'
          rw [if_pos rfl, List.getD_eq_getElem?_getD, List.getElem?_set_self (by omega), Option.getD_some, h2 _ hv]
        · rw [if_neg (fun x => e' x.symm), List.append_nil, ← h2 v hv, List.getD_eq_getElem?_getD, List.getElem?_set_ne (fun x => e' x.symm), List.getD_eq_getElem?_getD]
theorem grp_le {N : Nat} {f : Nat → Nat} {nm : Nat → ByteArray} (h : Rgs N f) {i : Nat} (hi : i < N) : f i ≤ (grpF f nm i).length := by
  rcases Nat.lt_or_ge (grpF f nm i).length (f i) with hlt | hge
  · obtain ⟨k, hk, e⟩ := h i hi _ hlt
    exact absurd (((grp_ok (nm := nm) h i (by omega)).1 _).2 ⟨k, hk, e⟩) (by omega)
  · exact hge
theorem grp_num {f : Nat → Nat} {nm : Nat → ByteArray} : ∀ i, (grpF f nm i).length ≤ i
  | 0 => Nat.le_refl 0
  | i + 1 => by
    have := grp_num (f := f) (nm := nm) i
    show (addG _ _ _).length ≤ _
    unfold addG
    split
    · rw [List.length_append, List.length_singleton]; omega
    · rw [List.length_set]; omega
theorem grp_wide {f : Nat → Nat} {nm : Nat → ByteArray} : ∀ i, ∀ g ∈ grpF f nm i, g.length ≤ i
  | 0 => fun g h => by simp [grpF] at h
  | i + 1 => fun g h => by
    have ih := grp_wide (f := f) (nm := nm) i
    have h : g ∈ addG (grpF f nm i) (f i) (nm i) := h
    unfold addG at h
    split at h
    · rcases List.mem_append.1 h with h | h
      · have := ih g h; omega
      · rw [List.mem_singleton] at h; subst h; simp
    · rcases List.mem_or_eq_of_mem_set h with h | rfl
      · have := ih g h; omega
      · rw [List.length_append, List.length_singleton]
        rename_i hne
        rcases Nat.lt_or_ge (f i) (grpF f nm i).length with hlt | hge
        · rw [List.getD_eq_getElem?_getD, List.getElem?_eq_getElem hlt, Option.getD_some]; have := ih _ (List.getElem_mem hlt); omega
        · rw [List.getD_eq_getElem?_getD, List.getElem?_eq_none hge]; simp
/-! own memory -/
theorem compact_out1 {tm : List (Nat × PV)} {H : List Mem} {o m : Nat} {f w : Nat → Nat} {mm : Bool} {rows : Nat → Mem} (hm : 0 < m)
    (ho : H[o]? = some (.row (outerRow m f w) 1 mm))
    (hr : ∀ i, i < m → H[f i]? = some (rows i) ∧ flatM (rows i) = true) (hf0 : ∀ i, i < m → f i ≠ o) (hinj : ∀ i j, i < j → j < m → f i ≠ f j)
    (hids : idsT tm = [o]) (hok : tm.all (fun x => okIds x.2) = true) :
    compact tm H = some ⟨tm.map fun x => (x.1, ren (o :: (List.range m).map f) x.2), .row (outerRow m (· + 1) w) 1 mm :: (List.range m).map rows⟩ := by
  have hfl := outerRow_flat hm f w 1 mm
  have ao : idsAt H o = (List.range m).map f := by rw [idsAt_eq, ho, idsO_some, idsM_row hfl, outerRow_ids]
  have ar : ∀ i, i < m → idsAt H (f i) = [] := fun i hi => by rw [idsAt_eq, (hr i hi).1]; exact idsM_flat (hr i hi).2
  have hall : ((List.range m).map f).flatMap (idsAt H) = [] := by
    rw [List.flatMap_eq_nil_iff]
    intro x hx
    obtain ⟨i, hi, rfl⟩ := List.mem_map.1 hx
    exact ar i (by simpa using hi)
  have c1 : closeStep H [o] = o :: (List.range m).map f := by
    rw [closeStep, List.flatMap_cons, List.flatMap_nil, ao, List.append_nil, foldl_addNew]
    · rfl
    · intro i j hij hj
      rw [List.length_map, List.length_range] at hj
      rw [List.getElem?_map, List.getElem?_map, List.getElem?_range (by omega), List.getElem?_range hj]
      simpa using hinj i j hij hj
    · intro x hx
      obtain ⟨i, hi, rfl⟩ := List.mem_map.1 hx
      have := hf0 i (by simpa using hi)
      simp [this]
  have c2 : closeStep H (o :: (List.range m).map f) = o :: (List.range m).map f := by
    rw [closeStep, List.flatMap_cons, hall, ao, List.append_nil]
    exact addNew_all fun x hx => List.mem_cons_of_mem _ hx
  rw [compact_run, hids, c1, c2, c2, compactK, if_pos hok]
  have hp : ∀ i, i < m → pos (f i) (o :: (List.range m).map f) = i + 1 := by
    intro i hi
    have := hf0 i hi
    rw [pos_cons, if_neg this, pos_app (k := i)]
    · rw [List.getElem?_map, List.getElem?_range hi]; rfl
    · intro j hj
      rw [List.getElem?_map, List.getElem?_range (by omega)]
      simpa using hinj j i hj hi
  generalize hI : o :: (List.range m).map f = ids at hp ⊢
  have hcon : ∀ i, i < m → f i ∈ ids := fun i hi => by rw [← hI]; exact List.mem_cons_of_mem _ (List.mem_map.2 ⟨i, by simpa using hi, rfl⟩)
  have go : ((H[o]?).bind fun m => if (okM m && (idsM m).all ids.contains) = true then some (renM ids m) else none) = some (.row (outerRow m (· + 1) w) 1 mm) := by
    rw [ho, Option.bind_some, okM_row hfl, idsM_row hfl, renM_rows hfl, outerRow_ids]
    have e1 : ((outerRow m f w).all fun c => c.all okIds) = true := by
      rw [List.all_eq_true]
      intro c hc
      obtain ⟨i, _, rfl⟩ := List.mem_map.1 hc
      rfl
    have e2 : ((List.range m).map f).all ids.contains = true := by
      rw [List.all_eq_true]
      intro x hx
      obtain ⟨i, hi, rfl⟩ := List.mem_map.1 hx
      simpa using hcon i (by simpa using hi)
    rw [e1, e2, Bool.and_self, if_pos rfl]
    congr 2
    rw [outerRow, outerRow, List.map_map]
    refine List.map_congr_left fun i hi => ?_
    simp only [Function.comp_apply, List.map_cons, List.map_nil, ren, ren1, hp i (by simpa using hi)]
  have gr : ∀ x ∈ (List.range m).map f, ((H[x]?).bind fun m => if (okM m && (idsM m).all ids.contains) = true then some (renM ids m) else none) = some (H[x]?.getD .dead) := by
    intro x hx
    obtain ⟨i, hi, rfl⟩ := List.mem_map.1 hx
    obtain ⟨h1, h2⟩ := hr i (by simpa using hi)
    rw [h1, Option.bind_some, okM_flat h2, idsM_flat h2, renM_flat h2]; rfl
  have hom : omap (fun i => (H[i]?).bind fun m => if (okM m && (idsM m).all ids.contains) = true then some (renM ids m) else none) ids = some (.row (outerRow m (· + 1) w) 1 mm :: (List.range m).map rows) := by
    conv => lhs; arg 2; rw [← hI]
    rw [omap_cons', go, Option.bind_some, omap_all gr]
    simp only [Option.bind_some, Option.map_some]
    congr 2
    rw [List.map_map]
    refine List.map_congr_left fun i hi => ?_
    rw [Function.comp_apply, (hr i (by simpa using hi)).1]; rfl
  rw [hom]; rfl
theorem outerRow_get {m : Nat} {f w : Nat → Nat} {i : Nat} (h : i < m) : (outerRow m f w)[i]? = some [.ref (f i) 0 (w i) (w i)] := by
  rw [outerRow, List.getElem?_map, List.getElem?_range h]; rfl
theorem outerRow_len (m : Nat) (f w : Nat → Nat) : (outerRow m f w).length = m := by rw [outerRow, List.length_map, List.length_range]
theorem outerRow_ext {m : Nat} {f w f' w' : Nat → Nat} (h : ∀ i, i < m → f i = f' i ∧ w i = w' i) : outerRow m f w = outerRow m f' w' := by
  rw [outerRow, outerRow]
  refine List.map_congr_left fun i hi => ?_
  rw [(h i (by simpa using hi)).1, (h i (by simpa using hi)).2]
theorem outerRow_set {m : Nat} {f w f' w' : Nat → Nat} {b : Nat} (hb : b < m) (h : ∀ i, i < m → i ≠ b → f i = f' i ∧ w i = w' i) : (outerRow m f w).set b [.ref (f' b) 0 (w' b) (w' b)] = outerRow m f' w' := by
  apply List.ext_getElem?
  intro i
  by_cases e : i = b
  · subst e
    rw [List.getElem?_set_self (by rw [outerRow_len]; exact hb), outerRow_get hb]
  · rw [List.getElem?_set_ne (fun x => e x.symm)]
    by_cases hi : i < m
    · rw [outerRow_get hi, outerRow_get hi, (h i hi e).1, (h i hi e).2]
    · rw [List.getElem?_eq_none (by rw [outerRow_len]; omega), List.getElem?_eq_none (by rw [outerRow_len]; omega)]
theorem outerRow_succ (m : Nat) (f w : Nat → Nat) : outerRow (m + 1) f w = outerRow m f w ++ [[.ref (f m) 0 (w m) (w m)]] := by
  rw [outerRow, List.range_succ, List.map_append]; rfl
noncomputable def lenG (G : List (List ByteArray)) (j : Nat) : Nat := (G.getD j []).length
noncomputable def rowG (G : List (List ByteArray)) (j : Nat) : Mem := .row ((G.getD j []).map encS) 1 true
theorem rowG_flat (G : List (List ByteArray)) (j : Nat) : flatM (rowG G j) = true := flatG encS_no _ 1 true
noncomputable def rowsG (G : List (List ByteArray)) : List Mem := (List.range G.length).map (rowG G)
theorem rowsG_len (G : List (List ByteArray)) : (rowsG G).length = G.length := by rw [rowsG, List.length_map, List.length_range]
theorem rowsG_get {G : List (List ByteArray)} {i : Nat} (h : i < G.length) : (rowsG G)[i]? = some (rowG G i) := by rw [rowsG, List.getElem?_map, List.getElem?_range h]; rfl
end Go.Proofs.Ytcclbkkgpcpikaa

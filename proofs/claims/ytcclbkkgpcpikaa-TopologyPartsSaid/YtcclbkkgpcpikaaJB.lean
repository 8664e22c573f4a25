/-
  The plain law of islands with a source.
-/
import Derived.Test.YtcclbkkgpcpikaaJA
set_option linter.unusedSimpArgs false
set_option linter.unusedVariables false
namespace Go.Proofs.Ytcclbkkgpcpikaa
def Dist (seen : List ByteArray) : List ByteArray → Prop
  | [] => True
  | x :: r => memS x seen = false ∧ Dist (seen ++ [x]) r
theorem devE_seen {nodes seen : List ByteArray} {name : ByteArray} {ns : List ByteArray} (h : devE nodes seen name ns = 0) : memS name seen = false := by
  unfold devE at h
  split at h
  · split at h
    · omega
    · rename_i h2; simpa using h2
  · omega
theorem runIt_dist {nodes : List ByteArray} {rest : List Item} : ∀ {l seen : List ByteArray}, (runIt nodes seen (l.map nodeIt ++ rest)).1 = 0 → Dist seen l
  | [], _, _ => trivial
  | x :: l, seen, h => by
    rw [List.map_cons, List.cons_append, runIt] at h
    split at h
    · rename_i h0
      refine ⟨?_, runIt_dist h⟩
      unfold itE at h0
      split at h0
      · rename_i h1; exact devE_seen h1
      · exact devE_seen h0
    · rename_i h0; exact absurd h h0
theorem nodes_dist {n : Net} (h : netE n = 0) : Dist [] n.nodes := by
  unfold netE at h
  split at h
  · omega
  · exact runIt_dist h
theorem dist_get : ∀ {l seen : List ByteArray}, Dist seen l → ∀ j (hj : j < l.length), memS l[j] (seen ++ l.take j) = false
  | [], _, _, j, hj => by simp at hj
  | x :: r, seen, h, 0, _ => by simpa using h.1
  | x :: r, seen, h, j + 1, hj => by
    have := dist_get h.2 j (by simpa using hj)
    simpa using this
theorem eqS_true {a b : ByteArray} (h : eqS a b = true) : a = b := by
  unfold eqS at h
  have : a.data.toList = b.data.toList := by simpa using h
  cases a
  cases b
  congr 1
  exact Array.toList_inj.1 this
theorem eqS_refl (a : ByteArray) : eqS a a = true := by unfold eqS; simp
theorem placeFrom_at {name : ByteArray} : ∀ {l : List ByteArray} {i j : Nat}, (hj : j < l.length) → eqS name l[j] = true → (∀ k (hk : k < j), eqS name (l[k]'(by omega)) = false) → placeFrom name i l = some (i + j)
  | [], _, j, hj, _, _ => by simp at hj
  | x :: r, i, 0, _, h1, _ => by rw [placeFrom, if_pos (by simpa using h1)]; rfl
  | x :: r, i, j + 1, hj, h1, h2 => by
    have h0 := h2 0 (by omega)
    simp only [List.getElem_cons_zero] at h0
    rw [placeFrom, if_neg (by rw [h0]; simp), placeFrom_at (j := j) (by simpa using hj) (by simpa using h1) (fun k hk => by have := h2 (k + 1) (by omega); simpa using this)]
    congr 1; omega
theorem plN_self {n : Net} (h : netE n = 0) {j : Nat} (hj : j < n.nodes.length) : plN n n.nodes[j] = j := by
  have hd := dist_get (nodes_dist h) j hj
  rw [List.nil_append] at hd
  have : placeFrom n.nodes[j] 0 n.nodes = some (0 + j) := by
    refine placeFrom_at hj (eqS_refl _) fun k hk => ?_
    have hm : memS n.nodes[j] (n.nodes.take j) = false := hd
    unfold memS at hm
    rw [List.any_eq_false] at hm
    have := hm n.nodes[k] (List.mem_take_iff_getElem.2 ⟨k, Nat.lt_min.2 ⟨hk, by omega⟩, rfl⟩)
    simpa using this
  unfold plN placeI
  rw [this]; simp
theorem placeFrom_get {name : ByteArray} : ∀ {l : List ByteArray} {i k : Nat}, placeFrom name i l = some k → ∃ j, ∃ hj : j < l.length, k = i + j ∧ eqS name l[j] = true
  | [], _, _, h => by cases h
  | x :: r, i, k, h => by
    rw [placeFrom] at h
    split at h
    · rename_i hx
      cases h
      exact ⟨0, by simp, rfl, by simpa using hx⟩
    · obtain ⟨j, hj, h1, h2⟩ := placeFrom_get h
      exact ⟨j + 1, by simpa using hj, by omega, by simpa using h2⟩
theorem plN_get {n : Net} {s : ByteArray} (hs : memS s n.nodes = true) : ∃ hj : plN n s < n.nodes.length, n.nodes[plN n s] = s := by
  obtain ⟨h1, h2⟩ := plN_ok hs
  refine ⟨h2, ?_⟩
  unfold placeI at h1
  cases hp : placeFrom s 0 n.nodes with
  | none => rw [hp] at h1; simp at h1
  | some k =>
    rw [hp] at h1
    obtain ⟨j, hj, h3, h4⟩ := placeFrom_get hp
    have : plN n s = j := by simp at h1; omega
    simp only [this]
    exact (eqS_true h4).symm
def srcAt (n : Net) (s : ByteArray) : Bool := (n.gn.any fun x => eqS x.node s) || n.so.any fun x => eqS x.node s
def lvF (n : Net) (k : Nat) : Nat → Nat → Bool → Bool
  | 0, _, a => a
  | c + 1, i, a => lvF n k c (i + 1) (a || (decide ((isleF n).getD ((busF n).getD i 0) 0 = k) && srcAt n (n.nodes.getD i ByteArray.empty)))
theorem lvF_iff (n : Net) (k : Nat) : ∀ (c i : Nat) (a : Bool), lvF n k c i a = true ↔ a = true ∨ ∃ j, i ≤ j ∧ j < i + c ∧ (isleF n).getD ((busF n).getD j 0) 0 = k ∧ srcAt n (n.nodes.getD j ByteArray.empty) = true
  | 0, i, a => by
    rw [lvF]
    exact ⟨.inl, fun h => h.elim id fun ⟨j, h1, h2, _⟩ => by omega⟩
  | c + 1, i, a => by
    rw [lvF, lvF_iff n k c (i + 1)]
    simp only [Bool.or_eq_true, Bool.and_eq_true, decide_eq_true_eq]
    constructor
    · rintro ((h | h) | ⟨j, h1, h2, h3⟩)
      · exact .inl h
      · exact .inr ⟨i, Nat.le_refl i, by omega, h.1, h.2⟩
      · exact .inr ⟨j, by omega, by omega, h3⟩
    · rintro (h | ⟨j, h1, h2, h3, h4⟩)
      · exact .inl (.inl h)
      · by_cases e : j = i
        · subst e; exact .inl (.inr ⟨h3, h4⟩)
        · exact .inr ⟨j, by omega, by omega, h3, h4⟩
theorem markL_iff (n : Net) : ∀ (l : List ByteArray) (b : List Bool) (k : Nat), k < b.length → ((markL n l b).getD k false = true ↔ b.getD k false = true ∨ ∃ s ∈ l, isAt n s = k)
  | [], b, k, _ => by simp [markL]
  | s :: r, b, k, hk => by
    rw [markL, markL_iff n r _ k (by simpa using hk)]
    have : (b.set (isAt n s) true).getD k false = if isAt n s = k then true else b.getD k false := by
      rw [List.getD_eq_getElem?_getD, List.getElem?_set]
      split
      · rename_i e; rw [if_pos (by omega)]; rfl
      · rw [← List.getD_eq_getElem?_getD]
    rw [this]
    constructor
    · rintro (h | ⟨t, ht, h⟩)
      · split at h
        · rename_i e; exact .inr ⟨s, List.mem_cons_self, e⟩
        · exact .inl h
      · exact .inr ⟨t, List.mem_cons_of_mem _ ht, h⟩
    · rintro (h | ⟨t, ht, h⟩)
      · left; split
        · rfl
        · exact h
      · rcases List.mem_cons.1 ht with rfl | ht
        · left; rw [if_pos h]
        · exact .inr ⟨t, ht, h⟩
theorem live_eq {n : Net} (h0 : netE n = 0) {k : Nat} (hk : k < mostI n) : lvF n k n.nodes.length 0 false = (liveF n).getD k false := by
  have hv := vnet h0
  rw [Bool.eq_iff_iff, lvF_iff, liveF, markL_iff n _ _ k (by rw [markL_len, List.length_replicate]; exact hk), markL_iff n _ _ k (by rw [List.length_replicate]; exact hk)]
  have hrep : (List.replicate (mostI n) false).getD k false = false := by
    rw [List.getD_eq_getElem?_getD, List.getElem?_replicate]; split <;> rfl
  rw [hrep]
  constructor
  · rintro (h | ⟨j, _, hj, h3, h4⟩)
    · cases h
    · have hj' : j < n.nodes.length := by omega
      have hnj : n.nodes.getD j ByteArray.empty = n.nodes[j] := by rw [List.getD_eq_getElem?_getD, List.getElem?_eq_getElem hj']; rfl
      rw [hnj] at h4
      have hat : ∀ s, eqS s n.nodes[j] = true → isAt n s = k := by
        intro s hs
        rw [eqS_true hs]
        unfold isAt bAt
        rw [plN_self h0 hj', h3]
      simp only [srcAt, Bool.or_eq_true, List.any_eq_true] at h4
      rcases h4 with ⟨x, hx, he⟩ | ⟨x, hx, he⟩
      · exact .inl (.inr ⟨x.node, List.mem_map.2 ⟨x, hx, rfl⟩, hat _ he⟩)
      · exact .inr ⟨x.node, List.mem_map.2 ⟨x, hx, rfl⟩, hat _ he⟩
  · have go : ∀ s, memS s n.nodes = true → isAt n s = k → (n.gn.any (fun x => eqS x.node s) || n.so.any fun x => eqS x.node s) = true → ∃ j, 0 ≤ j ∧ j < 0 + n.nodes.length ∧ (isleF n).getD ((busF n).getD j 0) 0 = k ∧ srcAt n (n.nodes.getD j ByteArray.empty) = true := by
      intro s hs hk hsrc
      obtain ⟨hj, he⟩ := plN_get hs
      have hnj : n.nodes.getD (plN n s) ByteArray.empty = s := by rw [List.getD_eq_getElem?_getD, List.getElem?_eq_getElem hj, he]; rfl
      exact ⟨plN n s, Nat.zero_le _, by omega, hk, by rw [hnj]; exact hsrc⟩
    rintro ((h | ⟨s, hs, h⟩) | ⟨s, hs, h⟩)
    · cases h
    · obtain ⟨x, hx, rfl⟩ := List.mem_map.1 hs
      right
      exact go _ (hv.gn x hx) h (by rw [Bool.or_eq_true]; exact .inl (List.any_eq_true.2 ⟨x, hx, eqS_refl _⟩))
    · obtain ⟨x, hx, rfl⟩ := List.mem_map.1 hs
      right
      exact go _ (hv.so x hx) h (by rw [Bool.or_eq_true]; exact .inr (List.any_eq_true.2 ⟨x, hx, eqS_refl _⟩))
end Go.Proofs.Ytcclbkkgpcpikaa

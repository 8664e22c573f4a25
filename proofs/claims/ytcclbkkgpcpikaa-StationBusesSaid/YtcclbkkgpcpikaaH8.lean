/-
  The plain law of parts of a graph.
-/
import Derived.Test.YtcclbkkgpcpikaaH7
set_option linter.unusedSimpArgs false
set_option linter.unusedVariables false
namespace Go.Proofs.Ytcclbkkgpcpikaa
/-! reach -/
def Adj (use : Nat → Bool) (l : List (Nat × Nat)) (u v : Nat) : Prop := ∃ k x, l[k]? = some x ∧ use k = true ∧ ((x.1 = u ∧ x.2 = v) ∨ (x.2 = u ∧ x.1 = v))
inductive Rch (use : Nat → Bool) (l : List (Nat × Nat)) : Nat → Nat → Prop
  | refl (v : Nat) : Rch use l v v
  | step {u v w : Nat} : Rch use l u v → Adj use l v w → Rch use l u w
section
variable {use : Nat → Bool} {l : List (Nat × Nat)} {n : Nat}
theorem Adj.symm {u v : Nat} (h : Adj use l u v) : Adj use l v u := by
  obtain ⟨k, x, h1, h2, h3⟩ := h
  exact ⟨k, x, h1, h2, h3.elim (fun h => .inr ⟨h.2, h.1⟩) (fun h => .inl ⟨h.2, h.1⟩)⟩
theorem Adj.lt (ho : okL n l) {u v : Nat} (h : Adj use l u v) : u < n ∧ v < n := by
  obtain ⟨k, x, h1, h2, h3⟩ := h
  have := ho x (List.mem_of_getElem? h1)
  rcases h3 with ⟨rfl, rfl⟩ | ⟨rfl, rfl⟩
  · exact this
  · exact ⟨this.2, this.1⟩
theorem Rch.trans {u v w : Nat} (h : Rch use l u v) (h' : Rch use l v w) : Rch use l u w := by
  induction h' with
  | refl => exact h
  | step _ ha ih => exact ih.step ha
theorem Rch.symm {u v : Nat} (h : Rch use l u v) : Rch use l v u := by
  induction h with
  | refl => exact .refl _
  | step _ ha ih => exact (Rch.refl _ |>.step ha.symm).trans ih
/-! the matrix -/
theorem gt_set {T : List (List Bool)} (hT : Sq n T) {i k i' k' : Nat} (v : Bool) (hi : i < n) (hk : k < n) : gt (setV T i k v) i' k' = if i = i' ∧ k = k' then v else gt T i' k' := by
  obtain ⟨r, h1, h2, h3⟩ := hT.row hi
  have hl : i < T.length := by rw [hT.1]; exact hi
  unfold gt setV
  rw [h2]
  by_cases hii : i = i'
  · subst hii
    have : (T.set i (r.set k v)).getD i [] = r.set k v := by
      rw [List.getD_eq_getElem?_getD, List.getElem?_set_self hl]; rfl
    rw [this, h2]
    by_cases hkk : k = k'
    · subst hkk
      rw [if_pos ⟨rfl, rfl⟩, List.getD_eq_getElem?_getD, List.getElem?_set_self (by omega)]; rfl
    · rw [if_neg (fun h => hkk h.2), List.getD_eq_getElem?_getD, List.getElem?_set_ne hkk, ← List.getD_eq_getElem?_getD]
  · rw [if_neg (fun h => hii h.1)]
    have : (T.set i (r.set k v)).getD i' [] = T.getD i' [] := by
      rw [List.getD_eq_getElem?_getD, List.getElem?_set_ne hii, ← List.getD_eq_getElem?_getD]
    rw [this]
theorem gt_wK {m i : Nat} (hm : m < n) (hi : i < n) : ∀ (c k : Nat) {T : List (List Bool)}, Sq n T → k + c = n → ∀ i' k', k' < n → gt (wK m i c k T) i' k' = if i = i' ∧ k ≤ k' then gt T i k' || (gt T i m && gt T m k') else gt T i' k'
  | 0, k, T, hT, hc, i', k', hk' => by rw [wK, if_neg (by omega)]
  | c + 1, k, T, hT, hc, i', k', hk' => by
    have hkn : k < n := by omega
    rw [wK, gt_wK hm hi c (k + 1) (hT.set hi k _) (by omega) i' k' hk']
    have g := fun a b => gt_set (i' := a) (k' := b) hT (gt T i k || (gt T i m && gt T m k)) hi hkn
    have him : gt (setV T i k (gt T i k || (gt T i m && gt T m k))) i m = gt T i m := by
      rw [g]
      split
      · rename_i h; rw [h.2]; cases gt T i m <;> cases gt T m m <;> rfl
      · rfl
    by_cases h1 : i = i'
    · subst h1
      by_cases h2 : k + 1 ≤ k'
      · rw [if_pos ⟨rfl, h2⟩, if_pos ⟨rfl, by omega⟩, him, g, g, if_neg (by omega), if_neg (by omega)]
      · rw [if_neg (by omega), g]
        by_cases h3 : k = k'
        · subst h3; rw [if_pos ⟨rfl, rfl⟩, if_pos ⟨rfl, by omega⟩]
        · rw [if_neg (by omega), if_neg (by omega)]
    · rw [if_neg (by omega), g, if_neg (by omega), if_neg (by omega)]
theorem gt_wI {m : Nat} (hm : m < n) : ∀ (c i : Nat) {T : List (List Bool)}, Sq n T → i + c = n → ∀ i' k', i' < n → k' < n → gt (wI n m c i T) i' k' = if i ≤ i' then gt T i' k' || (gt T i' m && gt T m k') else gt T i' k'
  | 0, i, T, hT, hc, i', k', hi', hk' => by rw [wI, if_neg (by omega)]
  | c + 1, i, T, hT, hc, i', k', hi', hk' => by
    have hin : i < n := by omega
    have g := fun a b hb => gt_wK (T := T) hm hin n 0 hT (by omega) a b hb
    rw [wI, gt_wI hm c (i + 1) (wK_sq hin n 0 hT) (by omega) i' k' hi' hk', g _ _ hk', g _ _ hm, g _ _ hk']
    simp only [Nat.zero_le, and_true]
    by_cases h1 : i = i'
    · subst h1
      rw [if_neg (by omega), if_pos rfl, if_pos (Nat.le_refl i)]
    · simp only [h1, if_false]
      by_cases h3 : i + 1 ≤ i'
      · have h3' : i ≤ i' := by omega
        simp only [h3, h3', if_true]
        by_cases h2 : i = m
        · subst h2
          simp only [if_true]
          cases gt T i' k' <;> cases gt T i' i <;> cases gt T i k' <;> cases gt T i i <;> rfl
        · simp only [h2, if_false]
      · have h3' : ¬ i ≤ i' := by omega
        simp only [h3, h3', if_false]
/-- Closed under ways through the first nodes. -/
def Closed (n m : Nat) (T : List (List Bool)) : Prop := ∀ j, j < m → ∀ i k, i < n → k < n → gt T i j = true → gt T j k = true → gt T i k = true
theorem wM_spec (P : Nat → Nat → Prop) (htr : ∀ a b c, P a b → P b c → P a c) : ∀ (c m : Nat) {T : List (List Bool)}, Sq n T → m + c = n → Closed n m T → (∀ i k, i < n → k < n → gt T i k = true → P i k) →
    (∀ i k, i < n → k < n → gt T i k = true → gt (wM n c m T) i k = true) ∧ Closed n n (wM n c m T) ∧ ∀ i k, i < n → k < n → gt (wM n c m T) i k = true → P i k
  | 0, m, T, hT, hc, hcl, hP => by
    have : m = n := by omega
    subst this
    exact ⟨fun i k _ _ h => h, hcl, hP⟩
  | c + 1, m, T, hT, hc, hcl, hP => by
    have hmn : m < n := by omega
    have g := fun a b ha hb => gt_wI (T := T) hmn n 0 hT (by omega) a b ha hb
    simp only [Nat.zero_le, if_true] at g
    have hT' := wI_sq (m := m) n 0 (by omega) hT
    have hcl' : Closed n (m + 1) (wI n m n 0 T) := by
      intro j hj i k hi hk h1 h2
      have hjn : j < n := by omega
      rw [g _ _ hi hjn] at h1
      rw [g _ _ hjn hk] at h2
      rw [g _ _ hi hk]
      simp only [Bool.or_eq_true, Bool.and_eq_true] at h1 h2 ⊢
      by_cases hjm : j = m
      · subst hjm
        right
        exact ⟨h1.elim id And.left, h2.elim id And.right⟩
      · have hjm' : j < m := by omega
        rcases h1 with h1 | ⟨h1, h1'⟩ <;> rcases h2 with h2 | ⟨h2, h2'⟩
        · exact .inl (hcl j hjm' i k hi hk h1 h2)
        · exact .inr ⟨hcl j hjm' i m hi hmn h1 h2, h2'⟩
        · exact .inr ⟨h1, hcl j hjm' m k hmn hk h1' h2⟩
        · exact .inr ⟨h1, h2'⟩
    obtain ⟨r1, r2, r3⟩ := wM_spec P htr c (m + 1) hT' (by omega) hcl' (by
      intro i k hi hk h
      rw [g _ _ hi hk] at h
      simp only [Bool.or_eq_true, Bool.and_eq_true] at h
      exact h.elim (hP i k hi hk) fun h => htr _ _ _ (hP _ _ hi hmn h.1) (hP _ _ hmn hk h.2))
    rw [wM]
    refine ⟨fun i k hi hk h => r1 i k hi hk ?_, r2, r3⟩
    rw [g _ _ hi hk, h]; rfl
theorem joinE_spec (P : Nat → Nat → Prop) : ∀ (r : List (Nat × Nat)) (k : Nat) {T : List (List Bool)}, okL n r → Sq n T → (∀ i j, i < n → j < n → gt T i j = true → P i j) → (∀ j x, r[j]? = some x → use (k + j) = true → P x.1 x.2 ∧ P x.2 x.1) →
    (∀ i j, i < n → j < n → gt T i j = true → gt (joinE use k r T) i j = true) ∧ (∀ i j, i < n → j < n → gt (joinE use k r T) i j = true → P i j) ∧
    ∀ j x, r[j]? = some x → use (k + j) = true → gt (joinE use k r T) x.1 x.2 = true ∧ gt (joinE use k r T) x.2 x.1 = true
  | [], k, T, _, hT, hP, _ => ⟨fun _ _ _ _ h => h, hP, fun j x h => by simp at h⟩
  | x :: r, k, T, ho, hT, hP, hr => by
    have hx := ho x List.mem_cons_self
    have ho' : okL n r := fun y hy => ho y (List.mem_cons_of_mem _ hy)
    have hr' : ∀ j y, r[j]? = some y → use (k + 1 + j) = true → P y.1 y.2 ∧ P y.2 y.1 := fun j y h1 h2 => hr (j + 1) y (by simpa using h1) (by rw [show k + (j + 1) = k + 1 + j by omega]; exact h2)
    rw [joinE]
    by_cases hu : use k = true
    · rw [if_pos hu]
      have hT1 := hT.set hx.1 x.2 true
      have hT2 := hT1.set hx.2 x.1 true
      have g1 := fun a b => gt_set (i' := a) (k' := b) hT true hx.1 hx.2
      have g2 := fun a b => gt_set (i' := a) (k' := b) hT1 true hx.2 hx.1
      have hP2 := hr 0 x rfl hu
      obtain ⟨s1, s2, s3⟩ := joinE_spec P r (k + 1) ho' hT2 (by
        intro i j hi hj h
        rw [g2, g1] at h
        split at h
        · rename_i e; rw [← e.1, ← e.2]; exact hP2.2
        · split at h
          · rename_i e; rw [← e.1, ← e.2]; exact hP2.1
          · exact hP i j hi hj h) hr'
      refine ⟨fun i j hi hj h => s1 i j hi hj ?_, s2, ?_⟩
      · rw [g2, g1]; split
        · rfl
        · split
          · rfl
          · exact h
      · intro j y h1 h2
        cases j with
        | zero =>
          simp only [List.getElem?_cons_zero, Option.some.injEq] at h1
          subst h1
          exact ⟨s1 _ _ hx.1 hx.2 (by rw [g2, g1]; split; · rfl
                                      rw [if_pos ⟨rfl, rfl⟩]), s1 _ _ hx.2 hx.1 (by rw [g2, if_pos ⟨rfl, rfl⟩])⟩
        | succ j => exact s3 j y (by simpa using h1) (by rw [show k + 1 + j = k + (j + 1) by omega]; exact h2)
    · rw [if_neg hu]
      obtain ⟨s1, s2, s3⟩ := joinE_spec P r (k + 1) ho' hT hP hr'
      refine ⟨s1, s2, ?_⟩
      intro j y h1 h2
      cases j with
      | zero => exact absurd h2 hu
      | succ j => exact s3 j y (by simpa using h1) (by rw [show k + 1 + j = k + (j + 1) by omega]; exact h2)
theorem gt_idRows {i k : Nat} (hi : i < n) : gt ((List.range n).map (idRow n)) i k = true ↔ i = k := by
  have e : ((List.range n).map (idRow n)).getD i [] = idRow n i := by rw [List.getD_eq_getElem?_getD, List.getElem?_map, List.getElem?_range hi]; rfl
  unfold gt
  rw [e, idRow, List.getD_eq_getElem?_getD]
  by_cases h : i = k
  · subst h
    rw [List.getElem?_set_self (by simpa using hi)]; simp
  · rw [List.getElem?_set_ne h]
    simp only [List.getElem?_replicate, h, iff_false]
    split <;> simp
theorem joined_rch (ho : okL n l) {i k : Nat} (hi : i < n) (hk : k < n) : gt (joinedF use n l) i k = true ↔ Rch use l i k := by
  obtain ⟨s1, s2, s3⟩ := joinE_spec (use := use) (Rch use l) l 0 ho (idRows_sq n) (fun i j hi _ h => by rw [(gt_idRows hi).1 h]; exact .refl _) (fun j x h1 h2 => by
    have ha : Adj use l x.1 x.2 := ⟨j, x, h1, by simpa using h2, .inl ⟨rfl, rfl⟩⟩
    exact ⟨(Rch.refl _).step ha, (Rch.refl _).step ha.symm⟩)
  obtain ⟨r1, r2, r3⟩ := wM_spec (Rch use l) (fun _ _ _ => Rch.trans) n 0 (joinE_sq (used := use) 0 ho (idRows_sq n)) (by omega) (fun j hj => by omega) s2
  refine ⟨r3 i k hi hk, fun h => ?_⟩
  have : ∀ {u v}, Rch use l u v → u < n → v < n → gt (joinedF use n l) u v = true := by
    intro u v h
    induction h with
    | refl => intro hv _; exact r1 _ _ hv hv (s1 _ _ hv hv ((gt_idRows hv).2 rfl))
    | step h ha ih =>
      rename_i v w
      intro hu hw
      have hlt := ha.lt ho
      refine r2 v hlt.1 _ w hu hw (ih hu hlt.1) ?_
      obtain ⟨j, x, h1, h2, h3⟩ := ha
      have h4 := s3 j x h1 (by simpa using h2)
      rcases h3 with ⟨rfl, rfl⟩ | ⟨rfl, rfl⟩
      · exact r1 _ _ hlt.1 hlt.2 h4.1
      · exact r1 _ _ hlt.1 hlt.2 h4.2
  exact this h hi hk
end
end Go.Proofs.Ytcclbkkgpcpikaa

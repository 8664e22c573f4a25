/-
  The plain law of parts of a graph: the search finds what the matrix says.
-/
import Derived.Test.YtcclbkkgpcpikaaH8
set_option linter.unusedSimpArgs false
set_option linter.unusedVariables false
namespace Go.Proofs.Ytcclbkkgpcpikaa
def useOf (wo : Int) (k : Nat) : Bool := !decide ((k : Int) = wo)
section
variable {wo : Int} {l : List (Nat × Nat)} {n : Nat}
theorem getD_set {out : List Int} {i v : Nat} {x : Int} (hi : i < out.length) : (out.set i x).getD v 0 = if i = v then x else out.getD v 0 := by
  rw [List.getD_eq_getElem?_getD, List.getElem?_set]
  by_cases h : i = v
  · subst h; rw [if_pos rfl, if_pos hi, if_pos rfl]; rfl
  · rw [if_neg h, if_neg h, ← List.getD_eq_getElem?_getD]
/-- What one row of edges does. -/
structure EdgeS (wo : Int) (l r : List (Nat × Nat)) (k at_ m : Nat) (out : List Int) (todo : List Nat) (s : List Int × List Nat) : Prop where
  old : ∀ v, negAt out v = false → s.1.getD v 0 = out.getD v 0
  new : ∀ v, negAt out v = true → (s.1.getD v 0 = out.getD v 0) ∨ (s.1.getD v 0 = m ∧ Adj (useOf wo) l at_ v)
  sub : ∀ v, v ∈ todo → v ∈ s.2
  got : ∀ v, negAt out v = true → negAt s.1 v = false → v ∈ s.2
  frm : ∀ v, v ∈ s.2 → v ∈ todo ∨ Adj (useOf wo) l at_ v
  all : ∀ j x, r[j]? = some x → useOf wo (k + j) = true → touch x at_ = true → oth x at_ < out.length → negAt s.1 (oth x at_) = false
theorem edges_spec {at_ m : Nat} : ∀ (r : List (Nat × Nat)) (k : Nat) (out : List Int) (todo : List Nat), (∀ j x, r[j]? = some x → l[k + j]? = some x) → EdgeS wo l r k at_ m out todo (edgesF wo at_ m k r out todo)
  | [], k, out, todo, _ => ⟨fun _ _ => rfl, fun _ _ => .inl rfl, fun _ h => h, fun v h1 h2 => absurd (h1.symm.trans h2) (by simp), fun _ h => .inl h, fun j x h => by simp at h⟩
  | x :: r, k, out, todo, hl => by
    have hl' : ∀ j y, r[j]? = some y → l[k + 1 + j]? = some y := fun j y h => by rw [show k + 1 + j = k + (j + 1) by omega]; exact hl (j + 1) y (by simpa using h)
    rw [edgesF]
    by_cases hc : (!decide ((k : Int) = wo) && touch x at_ && negAt out (oth x at_)) = true
    · rw [if_pos hc]
      simp only [Bool.and_eq_true] at hc
      obtain ⟨⟨hu, ht⟩, hn⟩ := hc
      have hlt := negAt_lt hn
      have hadj : Adj (useOf wo) l at_ (oth x at_) := by
        refine ⟨k, x, hl 0 x rfl, hu, ?_⟩
        simp only [touch, Bool.or_eq_true, decide_eq_true_eq] at ht
        simp only [oth]
        omega
      have hs := fun v => getD_set (v := v) (x := (m : Int)) hlt
      have hneg : ∀ v, negAt (out.set (oth x at_) m) v = (negAt out v && !decide (oth x at_ = v)) := by
        intro v
        unfold negAt
        rw [hs]
        by_cases h : oth x at_ = v
        · rw [if_pos h, decide_eq_true h]; simp
        · rw [if_neg h, decide_eq_false h]; simp
      have ih := edges_spec (at_ := at_) (m := m) r (k + 1) (out.set (oth x at_) m) (todo ++ [oth x at_]) hl'
      have hfix : negAt (edgesF wo at_ m (k + 1) r (out.set (oth x at_) m) (todo ++ [oth x at_])).1 (oth x at_) = false := by
        have h1 := ih.old (oth x at_) (by rw [hneg]; simp)
        unfold negAt
        rw [h1, hs, if_pos rfl]; simp
      refine ⟨?_, ?_, ?_, ?_, ?_, ?_⟩
      · intro v hv
        rw [ih.old v (by rw [hneg, hv]; rfl), hs, if_neg]
        intro e; rw [e] at hn; rw [hn] at hv; cases hv
      · intro v hv
        by_cases e : oth x at_ = v
        · right
          subst e
          exact ⟨by rw [ih.old _ (by rw [hneg]; simp), hs, if_pos rfl], hadj⟩
        · have := ih.new v (by rw [hneg, hv, decide_eq_false e]; rfl)
          rwa [hs, if_neg e] at this
      · intro v hv; exact ih.sub v (by simp [hv])
      · intro v hv hv'
        by_cases e : oth x at_ = v
        · exact ih.sub v (by simp [e])
        · exact ih.got v (by rw [hneg, hv, decide_eq_false e]; rfl) hv'
      · intro v hv
        rcases ih.frm v hv with h | h
        · rcases List.mem_append.1 h with h | h
          · exact .inl h
          · rw [List.mem_singleton.1 h]; exact .inr hadj
        · exact .inr h
      · intro j y hj h1 h2 h3
        cases j with
        | zero =>
          simp only [List.getElem?_cons_zero, Option.some.injEq] at hj
          subst hj; exact hfix
        | succ j => exact ih.all j y (by simpa using hj) (by rw [show k + 1 + j = k + (j + 1) by omega]; exact h1) h2 (by rw [List.length_set]; exact h3)
    · rw [if_neg hc]
      have ih := edges_spec (at_ := at_) (m := m) r (k + 1) out todo hl'
      refine ⟨ih.old, ih.new, ih.sub, ih.got, ih.frm, ?_⟩
      intro j y hj h1 h2 h3
      cases j with
      | zero =>
        simp only [List.getElem?_cons_zero, Option.some.injEq] at hj
        subst hj
        have hu : (!decide ((k : Int) = wo)) = true := h1
        have hn : negAt out (oth x at_) = false := by
          rw [hu, h2] at hc; simpa using hc
        unfold negAt
        rw [ih.old _ hn]; exact hn
      | succ j => exact ih.all j y (by simpa using hj) (by rw [show k + 1 + j = k + (j + 1) by omega]; exact h1) h2 h3
theorem edges_adj {at_ m : Nat} (ho : okL n l) {out : List Int} (hout : out.length = n) {todo : List Nat} {w : Nat} (ha : Adj (useOf wo) l at_ w) : negAt (edgesF wo at_ m 0 l out todo).1 w = false := by
  have hs := edges_spec (wo := wo) (l := l) (at_ := at_) (m := m) l 0 out todo (fun j x h => by simpa using h)
  have hlt := ha.lt ho
  obtain ⟨k, x, h1, h2, h3⟩ := ha
  have ht : touch x at_ = true := by
    simp only [touch, Bool.or_eq_true, decide_eq_true_eq]
    rcases h3 with h | h
    · exact .inl h.1
    · exact .inr h.1
  have hw : oth x at_ = w := by simp only [oth]; omega
  have := hs.all k x h1 (by simpa using h2) ht (by rw [hw]; omega)
  rwa [hw] at this
theorem neg_out {out out' : List Int} {v : Nat} (h : out'.getD v 0 = out.getD v 0) : negAt out' v = negAt out v := by unfold negAt; rw [h]
theorem drain_spec {m : Nat} (ho : okL n l) : ∀ (f : Nat) (out : List Int) (todo : List Nat), out.length = n → cnt out + todo.length ≤ f →
    (∀ v, negAt out v = false → (drain wo l m f out todo).getD v 0 = out.getD v 0) ∧
    (∀ v, negAt out v = true → (drain wo l m f out todo).getD v 0 = out.getD v 0 ∨ ((drain wo l m f out todo).getD v 0 = m ∧ ∃ t ∈ todo, Rch (useOf wo) l t v)) ∧
    (∀ v, (v ∈ todo ∨ (negAt out v = true ∧ negAt (drain wo l m f out todo) v = false)) → ∀ w, Adj (useOf wo) l v w → negAt (drain wo l m f out todo) w = false)
  | 0, out, todo, hout, hf => by
    have : todo = [] := List.length_eq_zero_iff.1 (by omega)
    subst this
    refine ⟨fun _ _ => rfl, fun _ _ => .inl rfl, fun v h => ?_⟩
    rcases h with h | ⟨h, h'⟩
    · cases h
    · exact absurd (h.symm.trans h') (by simp)
  | f + 1, out, [], hout, hf => by
    refine ⟨fun _ _ => rfl, fun _ _ => .inl rfl, fun v h => ?_⟩
    rcases h with h | ⟨h, h'⟩
    · cases h
    · exact absurd (h.symm.trans h') (by simp)
  | f + 1, out, at_ :: todo, hout, hf => by
    have hs := edges_spec (wo := wo) (l := l) (at_ := at_) (m := m) l 0 out todo (fun j x h => by simpa using h)
    have hcl := fun w (ha : Adj (useOf wo) l at_ w) => edges_adj (m := m) ho hout (todo := todo) ha
    have hlen := edgesF_len wo at_ m l 0 out todo
    have hcnt := edgesF_cnt wo at_ m l 0 out todo
    rw [drain]
    generalize edgesF wo at_ m 0 l out todo = s at hs hcl hlen hcnt
    obtain ⟨out1, todo1⟩ := s
    simp only at hs hcl hlen hcnt ⊢
    obtain ⟨i1, i2, i3⟩ := drain_spec (m := m) ho f out1 todo1 (by omega) (by simp only [List.length_cons] at hf; omega)
    have old1 : ∀ v, negAt out v = false → negAt out1 v = false := fun v hv => by rw [neg_out (hs.old v hv)]; exact hv
    refine ⟨?_, ?_, ?_⟩
    · intro v hv
      rw [i1 v (old1 v hv), hs.old v hv]
    · intro v hv
      rcases hs.new v hv with h | ⟨h, ha⟩
      · have hn1 : negAt out1 v = true := by rw [neg_out h]; exact hv
        rcases i2 v hn1 with h' | ⟨h', t, ht, hr⟩
        · exact .inl (by rw [h', h])
        · right
          refine ⟨h', ?_⟩
          rcases hs.frm t ht with ht | ht
          · exact ⟨t, List.mem_cons_of_mem _ ht, hr⟩
          · exact ⟨at_, List.mem_cons_self, ((Rch.refl _).step ht).trans hr⟩
      · right
        have hn1 : negAt out1 v = false := by unfold negAt; rw [h]; simp
        exact ⟨by rw [i1 v hn1, h], at_, List.mem_cons_self, (Rch.refl _).step ha⟩
    · intro v hv w ha
      rcases hv with hv | ⟨hv, hv'⟩
      · rcases List.mem_cons.1 hv with rfl | hv
        · have h1 := hcl w ha
          rw [neg_out (i1 w h1)]; exact h1
        · exact i3 v (.inl (hs.sub v hv)) w ha
      · cases hn : negAt out1 v with
        | true => exact i3 v (.inr ⟨hn, hv'⟩) w ha
        | false => exact i3 v (.inl (hs.got v hv hn)) w ha
/-! numbers of parts -/
def isFst (R : Nat → Nat → Bool) (i : Nat) : Bool := (List.range i).all fun k => !R k i
def num (R : Nat → Nat → Bool) (i : Nat) : Nat := ((List.range i).filter (isFst R)).length
theorem num_succ (R : Nat → Nat → Bool) (i : Nat) : num R (i + 1) = num R i + if isFst R i = true then 1 else 0 := by
  unfold num
  rw [List.range_succ, List.filter_append, List.length_append]
  congr 1
  cases h : isFst R i <;> simp [h]
/-- Numbers in the order of the first ones. -/
structure IsNum (n : Nat) (R : Nat → Nat → Bool) (f : Nat → Int) : Prop where
  same : ∀ i k, i < n → k < i → R k i = true → f i = f k
  fst : ∀ i, i < n → isFst R i = true → f i = num R i
theorem isNum_unique {R : Nat → Nat → Bool} {f g : Nat → Int} (hf : IsNum n R f) (hg : IsNum n R g) : ∀ i, i < n → f i = g i := by
  intro i
  induction i using Nat.strongRecOn with
  | _ i ih =>
    intro hi
    cases h : isFst R i with
    | true => rw [hf.fst i hi h, hg.fst i hi h]
    | false =>
      have : ∃ k, k < i ∧ R k i = true := by
        simp only [isFst, List.all_eq_false, List.mem_range] at h
        obtain ⟨k, hk, hR⟩ := h
        exact ⟨k, hk, by simpa using hR⟩
      obtain ⟨k, hk, hR⟩ := this
      rw [hf.same i k hi hk hR, hg.same i k hi hk hR, ih k hk (by omega)]
theorem ex_fst {R : Nat → Nat → Bool} {P : Nat → Nat → Prop} (hR : ∀ i k, i < n → k < n → (R i k = true ↔ P i k)) (hrf : ∀ v, P v v) (htr : ∀ a b c, P a b → P b c → P a c) : ∀ v, v < n → ∃ k, k ≤ v ∧ P k v ∧ isFst R k = true := by
  intro v
  induction v using Nat.strongRecOn with
  | _ v ih =>
    intro hv
    cases h : isFst R v with
    | true => exact ⟨v, Nat.le_refl v, hrf v, h⟩
    | false =>
      have : ∃ k, k < v ∧ R k v = true := by
        simp only [isFst, List.all_eq_false, List.mem_range] at h
        obtain ⟨k, hk, hRk⟩ := h
        exact ⟨k, hk, by simpa using hRk⟩
      obtain ⟨k, hk, hRk⟩ := this
      obtain ⟨j, hj, h1, h2⟩ := ih k hk (by omega)
      exact ⟨j, by omega, htr _ _ _ h1 ((hR k v (by omega) hv).1 hRk), h2⟩
theorem isNum_of {R : Nat → Nat → Bool} {P : Nat → Nat → Prop} (hR : ∀ i k, i < n → k < n → (R i k = true ↔ P i k)) (hrf : ∀ v, P v v) (htr : ∀ a b c, P a b → P b c → P a c) {f : Nat → Int}
    (hf : ∀ v k, v < n → k ≤ v → P k v → isFst R k = true → f v = num R k) : IsNum n R f := by
  refine ⟨?_, fun i hi h => hf i i hi (Nat.le_refl i) (hrf i) h⟩
  intro i k hi hk h
  obtain ⟨j, hj, h1, h2⟩ := ex_fst hR hrf htr k (by omega)
  rw [hf k j (by omega) hj h1 h2, hf i j hi (by omega) (htr _ _ _ h1 ((hR k i (by omega) hi).1 h)) h2]
theorem fst_iff {R : Nat → Nat → Bool} {P : Nat → Nat → Prop} (hR : ∀ i k, i < n → k < n → (R i k = true ↔ P i k)) {i : Nat} (hi : i < n) : isFst R i = true ↔ ∀ k, k < i → ¬ P k i := by
  simp only [isFst, List.all_eq_true, List.mem_range]
  constructor
  · intro h k hk hP
    have := h k hk
    rw [(hR k i (by omega) hi).2 hP] at this
    cases this
  · intro h k hk
    cases hr : R k i with
    | false => rfl
    | true => exact absurd ((hR k i (by omega) hi).1 hr) (h k hk)
theorem partsGo_num (ho : okL n l) {R : Nat → Nat → Bool} (hR : ∀ i k, i < n → k < n → (R i k = true ↔ Rch (useOf wo) l i k)) : ∀ (c i m : Nat) (out : List Int), i + c = n → out.length = n → m = num R i →
    (∀ v, v < n → (negAt out v = true ↔ ¬ ∃ k, k < i ∧ Rch (useOf wo) l k v)) → (∀ v k, v < n → k < i → Rch (useOf wo) l k v → isFst R k = true → out.getD v 0 = num R k) →
    ∀ v k, v < n → k < n → Rch (useOf wo) l k v → isFst R k = true → (partsGo wo l c i m out).getD v 0 = num R k
  | 0, i, m, out, hc, hout, hm, h1, h2 => fun v k hv hk h3 h4 => by rw [partsGo]; exact h2 v k hv (by omega) h3 h4
  | c + 1, i, m, out, hc, hout, hm, h1, h2 => by
    have hi : i < n := by omega
    rw [partsGo]
    cases hneg : negAt out i with
    | true =>
      simp only [if_true]
      have hno : ∀ k, k < i → ¬ Rch (useOf wo) l k i := fun k hk hr => (h1 i hi).1 hneg ⟨k, hk, hr⟩
      have hfst : isFst R i = true := (fst_iff hR hi).2 hno
      have hs := fun v => getD_set (out := out) (v := v) (x := (m : Int)) (i := i) (by omega)
      have hn0 : ∀ v, negAt (out.set i m) v = (negAt out v && !decide (i = v)) := by
        intro v
        unfold negAt
        rw [hs]
        by_cases h : i = v
        · rw [if_pos h, decide_eq_true h]; simp
        · rw [if_neg h, decide_eq_false h]; simp
      obtain ⟨d1, d2, d3⟩ := drain_spec (wo := wo) (m := m) ho (cnt (out.set i m) + 1) (out.set i m) [i] (by rw [List.length_set]; exact hout) (by simp)
      have dl := drain_len wo l m (cnt (out.set i m) + 1) (out.set i m) [i]
      generalize drain wo l m (cnt (out.set i m) + 1) (out.set i m) [i] = out' at d1 d2 d3 dl
      have hi' : negAt out' i = false := by
        rw [neg_out (d1 i (by rw [hn0]; simp)), hn0]; simp
      have hcl : ∀ v, Rch (useOf wo) l i v → v < n → v = i ∨ (negAt (out.set i m) v = true ∧ negAt out' v = false) := by
        intro v hr
        induction hr with
        | refl => intro _; exact .inl rfl
        | step hr ha ih =>
          rename_i v w
          intro hw
          have hvn := (ha.lt ho).1
          have hc3 : negAt out' w = false := by
            rcases ih hvn with h | h
            · exact d3 v (.inl (by simp [h])) w ha
            · exact d3 v (.inr h) w ha
          by_cases hwi : w = i
          · exact .inl hwi
          · right
            refine ⟨?_, hc3⟩
            rw [hn0, decide_eq_false (fun e => hwi e.symm), Bool.not_false, Bool.and_true]
            rw [h1 w hw]
            rintro ⟨k, hk, hkr⟩
            exact hno k hk (hkr.trans ((hr.step ha).symm))
      refine partsGo_num ho hR c (i + 1) (m + 1) out' (by omega) (by rw [dl, List.length_set]; exact hout) ?_ ?_ ?_
      · rw [num_succ, if_pos hfst, hm]
      · intro v hv
        by_cases hold : ∃ k, k < i ∧ Rch (useOf wo) l k v
        · have hnv : negAt out v = false := by
            cases h : negAt out v with
            | false => rfl
            | true => exact absurd hold ((h1 v hv).1 h)
          have hnv0 : negAt (out.set i m) v = false := by rw [hn0, hnv]; rfl
          rw [neg_out (d1 v hnv0), hnv0]
          obtain ⟨k, hk, hkr⟩ := hold
          exact ⟨fun h => absurd h (by simp), fun h => absurd ⟨k, by omega, hkr⟩ h⟩
        · have hnv : negAt out v = true := (h1 v hv).2 hold
          by_cases hr : Rch (useOf wo) l i v
          · have : negAt out' v = false := by
              rcases hcl v hr hv with h | h
              · rw [h]; exact hi'
              · exact h.2
            rw [this]
            exact ⟨fun h => absurd h (by simp), fun h => absurd ⟨i, by omega, hr⟩ h⟩
          · have hvi : i ≠ v := fun e => hr (e ▸ .refl _)
            have hnv0 : negAt (out.set i m) v = true := by rw [hn0, hnv, decide_eq_false hvi]; rfl
            have hun : negAt out' v = true := by
              rcases d2 v hnv0 with h | ⟨_, t, ht, htr⟩
              · rw [neg_out h]; exact hnv0
              · rw [List.mem_singleton.1 ht] at htr; exact absurd htr hr
            rw [hun]
            refine ⟨fun _ => ?_, fun _ => rfl⟩
            rintro ⟨k, hk, hkr⟩
            by_cases hki : k = i
            · subst hki; exact hr hkr
            · exact hold ⟨k, by omega, hkr⟩
      · intro v k hv hk hkr hkf
        by_cases hki : k = i
        · subst hki
          have hnv : negAt out v = true := by
            rw [h1 v hv]
            rintro ⟨j, hj, hjr⟩
            exact hno j hj (hjr.trans hkr.symm)
          rw [← hm]
          by_cases hvk : k = v
          · subst hvk
            rw [d1 _ (by rw [hn0]; simp), hs, if_pos rfl]
          · have hnv0 : negAt (out.set k m) v = true := by rw [hn0, hnv, decide_eq_false hvk]; rfl
            rcases d2 v hnv0 with h | ⟨h, _⟩
            · rcases hcl v hkr hv with h' | h'
              · exact absurd h'.symm hvk
              · have := h'.2
                rw [neg_out h, hnv0] at this
                cases this
            · exact h
        · have hk' : k < i := by omega
          have hnv : negAt out v = false := by
            cases h : negAt out v with
            | false => rfl
            | true => exact absurd ⟨k, hk', hkr⟩ ((h1 v hv).1 h)
          have hvi : i ≠ v := by rintro rfl; rw [hneg] at hnv; cases hnv
          rw [d1 v (by rw [hn0, hnv]; rfl), hs, if_neg hvi]
          exact h2 v k hv hk' hkr hkf
    | false =>
      simp only [Bool.false_eq_true, if_false]
      have hex : ∃ k, k < i ∧ Rch (useOf wo) l k i := by
        apply Classical.byContradiction
        intro h
        rw [(h1 i hi).2 h] at hneg; cases hneg
      obtain ⟨j, hj, hjr⟩ := hex
      have hnf : isFst R i = false := by
        cases h : isFst R i with
        | false => rfl
        | true => exact absurd hjr ((fst_iff hR hi).1 h j hj)
      refine partsGo_num ho hR c (i + 1) m out (by omega) hout ?_ ?_ ?_
      · rw [num_succ, hnf, hm]; rfl
      · intro v hv
        rw [h1 v hv]
        constructor
        · rintro h ⟨k, hk, hkr⟩
          by_cases hki : k = i
          · subst hki; exact h ⟨j, hj, hjr.trans hkr⟩
          · exact h ⟨k, by omega, hkr⟩
        · rintro h ⟨k, hk, hkr⟩
          exact h ⟨k, by omega, hkr⟩
      · intro v k hv hk hkr hkf
        by_cases hki : k = i
        · subst hki; rw [hnf] at hkf; cases hkf
        · exact h2 v k hv (by omega) hkr hkf
theorem rep_neg {v : Nat} (hv : v < n) : negAt (List.replicate n (-1)) v = true := by
  unfold negAt
  rw [List.getD_eq_getElem?_getD, List.getElem?_replicate_of_lt hv]; rfl
theorem partsF_num (ho : okL n l) : IsNum n (gt (joinedF (useOf wo) n l)) fun v => (partsF wo l n).getD v 0 := by
  have hR : ∀ i k, i < n → k < n → (gt (joinedF (useOf wo) n l) i k = true ↔ Rch (useOf wo) l i k) := fun i k hi hk => joined_rch ho hi hk
  refine isNum_of hR (fun v => .refl v) (fun _ _ _ => Rch.trans) ?_
  intro v k hv hk hkr hkf
  refine partsGo_num ho hR n 0 0 _ (by omega) (by simp) rfl (fun v hv => ?_) (fun v k _ hk => by omega) v k hv (by omega) hkr hkf
  rw [rep_neg hv]
  exact ⟨fun _ => by rintro ⟨k, hk, _⟩; omega, fun _ => rfl⟩
theorem atF_spec (T : List (List Bool)) (acc : List Nat) (i : Nat) : ∀ (c k : Nat) (a : Int), k + c = i → (0 ≤ a → atF T acc i c k a = a) ∧ (a < 0 → ((∀ j, k ≤ j → j < i → gt T i j = false) ∧ atF T acc i c k a = a) ∨ ∃ j, k ≤ j ∧ j < i ∧ gt T i j = true ∧ atF T acc i c k a = (acc.getD j 0 : Nat))
  | 0, k, a, hc => ⟨fun _ => rfl, fun _ => .inl ⟨fun j h1 h2 => by omega, rfl⟩⟩
  | c + 1, k, a, hc => by
    rw [atF]
    constructor
    · intro ha
      rw [decide_eq_false (by omega : ¬ a < 0), Bool.and_false, if_neg (by simp)]
      exact (atF_spec T acc i c (k + 1) a (by omega)).1 ha
    · intro ha
      rw [decide_eq_true ha, Bool.and_true]
      cases hg : gt T i k with
      | true =>
        rw [if_pos rfl]
        right
        exact ⟨k, Nat.le_refl k, by omega, hg, (atF_spec T acc i c (k + 1) _ (by omega)).1 (by omega)⟩
      | false =>
        rw [if_neg (by simp)]
        rcases (atF_spec T acc i c (k + 1) a (by omega)).2 ha with ⟨h1, h2⟩ | ⟨j, h1, h2, h3, h4⟩
        · left
          refine ⟨fun j hj1 hj2 => ?_, h2⟩
          by_cases e : j = k
          · rw [e]; exact hg
          · exact h1 j (by omega) hj2
        · exact .inr ⟨j, by omega, h2, h3, h4⟩
theorem numF_num {T : List (List Bool)} {P : Nat → Nat → Prop} (hR : ∀ i k, i < n → k < n → (gt T i k = true ↔ P i k)) (hsy : ∀ a b, P a b → P b a) (htr : ∀ a b c, P a b → P b c → P a c) (hrf : ∀ v, P v v) : ∀ (c i many : Nat) (acc : List Nat), i + c = n → acc.length = i → many = num (gt T) i →
    (∀ v k, v < i → k ≤ v → P k v → isFst (gt T) k = true → acc.getD v 0 = num (gt T) k) → (numF T c i many acc).length = n ∧ ∀ v k, v < n → k ≤ v → P k v → isFst (gt T) k = true → (numF T c i many acc).getD v 0 = num (gt T) k
  | 0, i, many, acc, hc, hacc, hm, h => by rw [numF]; exact ⟨by omega, fun v k hv => h v k (by omega)⟩
  | c + 1, i, many, acc, hc, hacc, hm, h => by
    have hi : i < n := by omega
    have hget : ∀ (x v : Nat), v < i → (acc ++ [x]).getD v 0 = acc.getD v 0 := by
      intro x v hv
      rw [List.getD_eq_getElem?_getD, List.getElem?_append_left (by omega), ← List.getD_eq_getElem?_getD]
    have hlast : ∀ x : Nat, (acc ++ [x]).getD i 0 = x := by
      intro x
      rw [List.getD_eq_getElem?_getD, List.getElem?_append_right (by omega), hacc, Nat.sub_self]; rfl
    rw [numF]
    rcases (atF_spec T acc i i 0 (-1) (by omega)).2 (by omega) with ⟨h1, h2⟩ | ⟨j, h1, h2, h3, h4⟩
    · have hfst : isFst (gt T) i = true := (fst_iff hR hi).2 fun k hk hP => by
        have := (hR i k hi (by omega)).2 (hsy _ _ hP)
        rw [h1 k (by omega) hk] at this; cases this
      rw [h2, if_pos (by omega)]
      refine numF_num hR hsy htr hrf c (i + 1) (many + 1) _ (by omega) (by simp [hacc]) (by rw [num_succ, if_pos hfst, hm]) ?_
      intro v k hv hk hP hkf
      by_cases e : v = i
      · subst e
        rw [hlast, hm]
        have : k = v := by
          apply Classical.byContradiction
          intro hne
          exact (fst_iff hR hi).1 hfst k (by omega) hP
        rw [this]
      · rw [hget _ v (by omega)]; exact h v k (by omega) hk hP hkf
    · have hP := (hR i j hi (by omega)).1 h3
      have hnf : isFst (gt T) i = false := by
        cases hh : isFst (gt T) i with
        | false => rfl
        | true => exact absurd (hsy _ _ hP) ((fst_iff hR hi).1 hh j h2)
      rw [h4, if_neg (by omega), Int.toNat_natCast]
      refine numF_num hR hsy htr hrf c (i + 1) many _ (by omega) (by simp [hacc]) (by rw [num_succ, hnf, hm]; rfl) ?_
      intro v k hv hk hPk hkf
      by_cases e : v = i
      · subst e
        rw [hlast]
        have hkv : k ≠ v := by rintro rfl; rw [hnf] at hkf; cases hkf
        by_cases hkj : k ≤ j
        · exact h j k h2 hkj (htr _ _ _ hPk hP) hkf
        · have := (fst_iff hR (by omega)).1 hkf j (by omega)
          exact absurd (hsy _ _ (htr _ _ _ hPk hP)) this
      · rw [hget _ v (by omega)]; exact h v k (by omega) hk hPk hkf
theorem numbersF_num (ho : okL n l) {use : Nat → Bool} : (numbersF (joinedF use n l) n).length = n ∧ IsNum n (gt (joinedF use n l)) fun v => ((numbersF (joinedF use n l) n).getD v 0 : Nat) := by
  have hR : ∀ i k, i < n → k < n → (gt (joinedF use n l) i k = true ↔ Rch use l i k) := fun i k hi hk => joined_rch ho hi hk
  obtain ⟨h1, h2⟩ := numF_num hR (fun _ _ => Rch.symm) (fun _ _ _ => Rch.trans) (fun v => .refl v) n 0 0 [] (by omega) rfl rfl (fun v k hv => by omega)
  exact ⟨h1, isNum_of hR (fun v => .refl v) (fun _ _ _ => Rch.trans) fun v k hv hk hP hf => by rw [show (numbersF (joinedF use n l) n).getD v 0 = num (gt (joinedF use n l)) k from h2 v k hv hk hP hf]⟩
end
end Go.Proofs.Ytcclbkkgpcpikaa

/-
  The plain law of shortest ways in a graph.
-/
import Derived.Test.YtcclbkkgpcpikaaI3
import Derived.Test.YtcclbkkgpcpikaaH9
set_option linter.unusedSimpArgs false
set_option linter.unusedVariables false
namespace Go.Proofs.Ytcclbkkgpcpikaa
/-! ways by length, as the reference looks for them -/
def wTry (use : Nat → Bool) (l : List (Nat × Nat)) (rec : Nat → Option (List Nat)) (at_ : Nat) : Nat → Nat → Option (List Nat)
  | 0, _ => none
  | c + 1, k => if (use k && touch (l.getD k (0, 0)) at_) = true then (match rec (oth (l.getD k (0, 0)) at_) with
    | some w => some (k :: w)
    | none => wTry use l rec at_ c (k + 1)) else wTry use l rec at_ c (k + 1)
def walkF (use : Nat → Bool) (l : List (Nat × Nat)) (to : Nat) : Nat → Nat → Option (List Nat)
  | 0, at_ => if at_ = to then some [] else none
  | L + 1, at_ => wTry use l (walkF use l to L) at_ l.length 0
def longR (use : Nat → Bool) (l : List (Nat × Nat)) (to fr : Nat) : Nat → Nat → Option (List Nat)
  | 0, _ => none
  | c + 1, L => match walkF use l to L fr with
    | some w => some w
    | none => longR use l to fr c (L + 1)
def shortR (use : Nat → Bool) (n : Nat) (l : List (Nat × Nat)) (fr to : Nat) : Bool × List Nat :=
  if gt (joinedF use n l) fr to = true then (match longR use l to fr n 0 with
    | some w => (true, w)
    | none => (false, [])) else (false, [])
/-- There is a way of a length. -/
def Wk (l : List (Nat × Nat)) (to : Nat) : Nat → Nat → Prop
  | 0, u => u = to
  | L + 1, u => ∃ (k : Nat) (x : Nat × Nat), l[k]? = some x ∧ touch x u = true ∧ Wk l to L (oth x u)
section
variable {l : List (Nat × Nat)} {n to : Nat}
theorem touch_oth {x : Nat × Nat} {u : Nat} (h : touch x u = true) : touch x (oth x u) = true ∧ oth x (oth x u) = u := by
  simp only [touch, Bool.or_eq_true, decide_eq_true_eq] at h ⊢
  simp only [oth]
  omega
theorem touch_lt (ho : okL n l) {k : Nat} {x : Nat × Nat} (hx : l[k]? = some x) {u : Nat} (h : touch x u = true) : u < n ∧ oth x u < n := by
  have := ho x (List.mem_of_getElem? hx)
  simp only [touch, Bool.or_eq_true, decide_eq_true_eq] at h
  simp only [oth]
  omega
theorem edgesF_ext {wo : Int} {at_ m : Nat} : ∀ (r : List (Nat × Nat)) (k : Nat) (out : List Int) (todo : List Nat), ∃ ext, (edgesF wo at_ m k r out todo).2 = todo ++ ext ∧ ∀ v ∈ ext, (edgesF wo at_ m k r out todo).1.getD v 0 = m
  | [], _, _, todo => ⟨[], by simp [edgesF], by simp⟩
  | x :: r, k, out, todo => by
    rw [edgesF]
    split
    · rename_i hc
      simp only [Bool.and_eq_true] at hc
      have hlt := negAt_lt hc.2
      obtain ⟨ext, h1, h2⟩ := edgesF_ext (wo := wo) (at_ := at_) (m := m) r (k + 1) (out.set (oth x at_) m) (todo ++ [oth x at_])
      refine ⟨oth x at_ :: ext, by rw [h1]; simp, ?_⟩
      intro v hv
      rcases List.mem_cons.1 hv with rfl | hv
      · have := edgesF_get (wo := wo) (at_ := at_) (m := m) r (k + 1) (out.set (oth x at_) m) (todo ++ [oth x at_]) (oth x at_) m (by rw [List.getElem?_set_self hlt])
        rw [List.getD_eq_getElem?_getD, this]; rfl
      · exact h2 v hv
    · exact edgesF_ext r (k + 1) out todo
/-- What the search keeps, further. -/
structure Bfs (n : Nat) (l : List (Nat × Nat)) (to : Nat) (out : List Int) (todo : List Nat) : Prop where
  inv : InvP n out todo
  lo : ∀ v, -1 ≤ out.getD v 0
  tob : to < n ∧ out.getD to 0 = 0
  snd : ∀ v, v < n → 0 ≤ out.getD v 0 → Wk l to (out.getD v 0).toNat v
  srt : todo.Pairwise fun a b => out.getD a 0 ≤ out.getD b 0
  wid : ∀ a ∈ todo, ∀ b ∈ todo, out.getD b 0 ≤ out.getD a 0 + 1
  done : ∀ v, v < n → 0 ≤ out.getD v 0 → v ∉ todo → (∀ (k : Nat) (x : Nat × Nat), l[k]? = some x → touch x v = true → 0 ≤ out.getD (oth x v) 0 ∧ out.getD (oth x v) 0 ≤ out.getD v 0 + 1) ∧ ∀ t ∈ todo, out.getD v 0 ≤ out.getD t 0
theorem bfs_step (hn : n ≤ 1000) (ho : okL n l) {out : List Int} {v : Nat} {todo : List Nat} (h : Bfs n l to out (v :: todo)) :
    Bfs n l to (edgesF (-1) v ((out.getD v 0).toNat + 1) 0 l out todo).1 (edgesF (-1) v ((out.getD v 0).toNat + 1) 0 l out todo).2 := by
  obtain ⟨hvn, d, hd⟩ := h.inv.lab v List.mem_cons_self
  have hdv : out.getD v 0 = d := by rw [List.getD_eq_getElem?_getD, hd]; rfl
  have hsum := h.inv.sum
  simp only [List.length_cons] at hsum
  have hbd := h.inv.bnd v d hd
  rw [hdv, Int.toNat_natCast]
  have hI := edgesF_inv (at_ := v) (m := d + 1) hn l 0 out todo h.inv.len (by omega) (fun w hw => h.inv.lab w (List.mem_cons_of_mem _ hw)) h.inv.bnd (by omega)
  have hs := edges_spec (wo := -1) (l := l) (at_ := v) (m := d + 1) l 0 out todo (fun j x h => by simpa using h)
  have hcl := fun w (ha : Adj (useOf (-1)) l v w) => edges_adj (m := d + 1) ho h.inv.len (todo := todo) ha
  obtain ⟨ext, hx1, hx2⟩ := edgesF_ext (wo := -1) (at_ := v) (m := d + 1) l 0 out todo
  generalize edgesF (-1) v (d + 1) 0 l out todo = s at hI hs hcl hx1 hx2
  obtain ⟨out1, todo1⟩ := s
  simp only at hI hs hcl hx1 hx2 ⊢
  subst hx1
  have neg : ∀ {o : List Int} {w : Nat}, negAt o w = false ↔ 0 ≤ o.getD w 0 := fun {o w} => by unfold negAt; rw [decide_eq_false_iff_not]; omega
  have negt : ∀ {o : List Int} {w : Nat}, negAt o w = true ↔ o.getD w 0 < 0 := fun {o w} => by unfold negAt; rw [decide_eq_true_eq]
  have old : ∀ w, 0 ≤ out.getD w 0 → out1.getD w 0 = out.getD w 0 := fun w hw => hs.old w (neg.2 hw)
  have labd : ∀ w ∈ todo, 0 ≤ out.getD w 0 := by
    intro w hw
    obtain ⟨_, e, he⟩ := h.inv.lab w (List.mem_cons_of_mem _ hw)
    rw [List.getD_eq_getElem?_getD, he]; simp
  have hadj : ∀ {w : Nat}, Adj (useOf (-1)) l v w → ∃ (k : Nat) (x : Nat × Nat), l[k]? = some x ∧ touch x v = true ∧ oth x v = w := by
    rintro w ⟨k, x, h1, _, h3⟩
    refine ⟨k, x, h1, ?_, ?_⟩
    · simp only [touch, Bool.or_eq_true, decide_eq_true_eq]; omega
    · simp only [oth]; omega
  have hrng : ∀ t ∈ todo, (d : Int) ≤ out.getD t 0 ∧ out.getD t 0 ≤ d + 1 := by
    intro t ht
    have h1 := List.rel_of_pairwise_cons h.srt ht
    have h2 := h.wid v List.mem_cons_self t (List.mem_cons_of_mem _ ht)
    rw [hdv] at h1 h2
    exact ⟨h1, h2⟩
  have hrng1 : ∀ t ∈ todo ++ ext, (d : Int) ≤ out1.getD t 0 ∧ out1.getD t 0 ≤ d + 1 := by
    intro t ht
    rcases List.mem_append.1 ht with ht | ht
    · rw [old t (labd t ht)]; exact hrng t ht
    · rw [hx2 t ht]; omega
  refine ⟨hI, ?_, ?_, ?_, ?_, ?_, ?_⟩
  · intro w
    cases hw : negAt out w with
    | false => rw [hs.old w hw]; exact h.lo w
    | true =>
      rcases hs.new w hw with e | ⟨e, _⟩
      · rw [e]; exact h.lo w
      · rw [e]; omega
  · exact ⟨h.tob.1, by rw [old to (by rw [h.tob.2]; omega), h.tob.2]⟩
  · intro w hw h0
    cases hnw : negAt out w with
    | false => rw [hs.old w hnw]; exact h.snd w hw (neg.1 hnw)
    | true =>
      rcases hs.new w hnw with e | ⟨e, ha⟩
      · rw [e] at h0; have := negt.1 hnw; omega
      · obtain ⟨k, x, h1, h2, h3⟩ := hadj ha
        have h4 := touch_oth h2
        rw [h3] at h4
        rw [e, Int.toNat_natCast]
        refine ⟨k, x, h1, h4.1, ?_⟩
        rw [h4.2]
        have := h.snd v hvn (by rw [hdv]; omega)
        rwa [hdv, Int.toNat_natCast] at this
  · rw [List.pairwise_append]
    refine ⟨?_, ?_, ?_⟩
    · have := (List.pairwise_cons.1 h.srt).2
      exact List.Pairwise.imp_of_mem (fun {a b} ha hb hab => by rw [old a (labd a ha), old b (labd b hb)]; exact hab) this
    · exact List.pairwise_of_forall_mem_list fun a ha b hb => by rw [hx2 a ha, hx2 b hb]; omega
    · intro a ha b hb
      rw [hx2 b hb, old a (labd a ha)]
      have := (hrng a ha).2; omega
  · intro a ha b hb
    have h1 := (hrng1 a ha).1
    have h2 := (hrng1 b hb).2
    omega
  · intro w hw h0 hnot
    have hwl : negAt out w = false := by
      cases hnw : negAt out w with
      | false => rfl
      | true => exact absurd (hs.got w hnw (neg.2 h0)) hnot
    have hw0 := neg.1 hwl
    rw [old w hw0]
    by_cases hwv : w = v
    · subst hwv
      rw [hdv]
      refine ⟨fun k x hk ht => ?_, fun t ht => (hrng1 t ht).1⟩
      have hlt := touch_lt ho hk ht
      have ha : Adj (useOf (-1)) l w (oth x w) := by
        refine ⟨k, x, hk, by simp only [useOf, Bool.not_eq_true', decide_eq_false_iff_not]; omega, ?_⟩
        simp only [touch, Bool.or_eq_true, decide_eq_true_eq] at ht
        simp only [oth]; omega
      have hc := neg.1 (hcl _ ha)
      refine ⟨hc, ?_⟩
      cases hno : negAt out (oth x w) with
      | true =>
        rcases hs.new _ hno with e | ⟨e, _⟩
        · rw [e] at hc; have := negt.1 hno; omega
        · rw [e]; omega
      | false =>
        have ho0 := neg.1 hno
        rw [old _ ho0]
        by_cases hin : oth x w ∈ w :: todo
        · rcases List.mem_cons.1 hin with e | hin
          · rw [e, hdv]; omega
          · exact (hrng _ hin).2
        · have := (h.done _ hlt.2 ho0 hin).2 w List.mem_cons_self
          rw [hdv] at this; omega
    · have hnin : w ∉ v :: todo := by
        intro hin
        rcases List.mem_cons.1 hin with e | hin
        · exact hwv e
        · exact hnot (List.mem_append.2 (.inl hin))
      obtain ⟨d1, d2⟩ := h.done w hw hw0 hnin
      refine ⟨fun k x hk ht => ?_, fun t ht => ?_⟩
      · obtain ⟨e1, e2⟩ := d1 k x hk ht
        rw [old _ e1]; exact ⟨e1, e2⟩
      · have e1 := d2 v List.mem_cons_self
        rw [hdv] at e1
        have := (hrng1 t ht).1; omega
theorem bfs_drain (hn : n ≤ 1000) (ho : okL n l) : ∀ (f : Nat) (out : List Int) (todo : List Nat), cnt out + todo.length ≤ f → Bfs n l to out todo → Bfs n l to (drainP l f out todo) []
  | 0, out, todo, hf, h => by
    have : todo = [] := List.length_eq_zero_iff.1 (by omega)
    subst this; exact h
  | f + 1, out, [], hf, h => h
  | f + 1, out, v :: todo, hf, h => by
    rw [drainP]
    have := edgesF_cnt (-1) v ((out.getD v 0).toNat + 1) l 0 out todo
    exact bfs_drain hn ho f _ _ (by simp only [List.length_cons] at hf; omega) (bfs_step hn ho h)
theorem start_get {v : Nat} (hto : to < n) : ((List.replicate n (-1)).set to 0).getD v 0 = if to = v then 0 else if v < n then -1 else 0 := by
  rw [List.getD_eq_getElem?_getD, List.getElem?_set]
  split
  · simp [hto]
  · rw [List.getElem?_replicate]
    split <;> rfl
theorem bfs_far (hn : n ≤ 1000) (ho : okL n l) (hto : to < n) : Bfs n l to (farF n l to) [] := by
  have hst := invP_start hto
  refine bfs_drain hn ho n _ _ hst.sum ⟨hst, ?_, ?_, ?_, ?_, ?_, ?_⟩
  · intro v
    rw [start_get hto]
    split
    · omega
    · split <;> omega
  · exact ⟨hto, by rw [start_get hto, if_pos rfl]⟩
  · intro v hv h0
    rw [start_get hto] at h0 ⊢
    split at h0
    · rename_i e; rw [if_pos e]; exact e.symm
    · omega
  · exact List.pairwise_singleton _ _
  · intro a ha b hb
    rw [List.mem_singleton.1 ha, List.mem_singleton.1 hb]; omega
  · intro v hv h0 hnot
    rw [start_get hto] at h0
    split at h0
    · rename_i e; exact absurd (by simp [e]) hnot
    · omega
/-- The least lengths. -/
theorem far_le (ho : okL n l) {far : List Int} (h : Bfs n l to far []) : ∀ (L v : Nat), v < n → Wk l to L v → 0 ≤ far.getD v 0 ∧ far.getD v 0 ≤ L
  | 0, v, hv, hw => by
    have : v = to := hw
    rw [this, h.tob.2]; omega
  | L + 1, v, hv, hw => by
    obtain ⟨k, x, h1, h2, h3⟩ := hw
    have hlt := touch_lt ho h1 h2
    obtain ⟨i1, i2⟩ := far_le ho h L _ hlt.2 h3
    have hto := touch_oth h2
    have := (h.done _ hlt.2 i1 (by simp)).1 k x h1 hto.1
    rw [hto.2] at this
    omega
theorem far_wk {far : List Int} (h : Bfs n l to far []) {v d : Nat} (hv : v < n) (hd : far.getD v 0 = d) : Wk l to d v := by
  have := h.snd v hv (by omega)
  rwa [hd, Int.toNat_natCast] at this
/-- One step of a shortest way. -/
theorem good_iff (ho : okL n l) {far : List Int} (h : Bfs n l to far []) {v d k : Nat} (hv : v < n) (hd : far.getD v 0 = ((d + 1 : Nat) : Int)) : goodK l far v k = true ↔ k < l.length ∧ touch (l.getD k (0, 0)) v = true ∧ Wk l to d (oth (l.getD k (0, 0)) v) := by
  constructor
  · intro hg
    obtain ⟨g1, g2, g3, g4⟩ := goodK_some ho hg
    refine ⟨g1, g3, far_wk h g2 (by rw [g4, hd]; omega)⟩
  · rintro ⟨g1, g3, g4⟩
    have hx : l[k]? = some (l.getD k (0, 0)) := by rw [List.getD_eq_getElem?_getD, List.getElem?_eq_getElem g1]; rfl
    have hlt := touch_lt ho hx g3
    obtain ⟨i1, i2⟩ := far_le ho h d _ hlt.2 g4
    have hto := touch_oth g3
    have := (h.done _ hlt.2 i1 (by simp)).1 k _ hx hto.1
    rw [hto.2, hd] at this
    unfold goodK
    rw [hx]
    simp only [g3, Bool.true_and, decide_eq_true_eq]
    rw [hd]; omega
theorem fndK_first {far : List Int} {v : Nat} : ∀ (c k j : Nat), k ≤ j → j < k + c → goodK l far v j = true → ∃ i, fndK l far v c k = some i
  | 0, k, j, h1, h2, _ => by omega
  | c + 1, k, j, h1, h2, hg => by
    rw [fndK]
    split
    · exact ⟨k, rfl⟩
    · rename_i hk
      exact fndK_first c (k + 1) j (by have : j ≠ k := fun e => hk (e ▸ hg); omega) (by omega) hg
theorem farOk (hn : n ≤ 24) (ho : okL n l) (hto : to < n) : FarOk n l to (farF n l to) := by
  have h := bfs_far (to := to) (by omega) ho hto
  generalize farF n l to = far at h
  refine ⟨h.inv.len, fun v _ => h.lo v, ?_, ?_, ?_⟩
  · intro v d hd; have := h.inv.bnd v d hd; omega
  · intro v hv
    constructor
    · intro h0; exact far_wk (d := 0) h hv (by rw [h0]; rfl)
    · rintro rfl; exact h.tob.2
  · intro v d hv hd
    have hd' : far.getD v 0 = ((d + 1 : Nat) : Int) := by rw [List.getD_eq_getElem?_getD, hd]; rfl
    obtain ⟨k, x, h1, h2, h3⟩ := far_wk h hv hd'
    have hk := (List.getElem?_eq_some_iff.1 h1).1
    have e : l.getD k (0, 0) = x := by rw [List.getD_eq_getElem?_getD, h1]; rfl
    exact fndK_first l.length 0 k (by omega) (by omega) ((good_iff ho h hv hd').2 ⟨hk, by rw [e]; exact h2, by rw [e]; exact h3⟩)
def yesU (_ : Nat) : Bool := true
theorem wTry_some {rec : Nat → Option (List Nat)} {at_ : Nat} : ∀ (c k j : Nat), k ≤ j → j < k + c → touch (l.getD j (0, 0)) at_ = true → (rec (oth (l.getD j (0, 0)) at_)).isSome = true → (wTry yesU l rec at_ c k).isSome = true
  | 0, k, j, h1, h2, _, _ => by omega
  | c + 1, k, j, h1, h2, h3, h4 => by
    rw [wTry]
    by_cases hk : j = k
    · subst hk
      rw [if_pos (by rw [h3]; rfl)]
      cases hr : rec (oth (l.getD j (0, 0)) at_) with
      | none => rw [hr] at h4; cases h4
      | some w => rfl
    · have ih := wTry_some (rec := rec) (at_ := at_) c (k + 1) j (by omega) (by omega) h3 h4
      split
      · split
        · rfl
        · exact ih
      · exact ih
theorem wTry_get {rec : Nat → Option (List Nat)} {at_ : Nat} {w : List Nat} : ∀ {c k : Nat}, k + c ≤ l.length → wTry yesU l rec at_ c k = some w → ∃ j w', j < l.length ∧ touch (l.getD j (0, 0)) at_ = true ∧ rec (oth (l.getD j (0, 0)) at_) = some w'
  | 0, _, _, h => by cases h
  | c + 1, k, hc, h => by
    rw [wTry] at h
    split at h
    · rename_i ht
      split at h
      · rename_i w' hr
        exact ⟨k, w', by omega, by simpa [yesU] using ht, hr⟩
      · exact wTry_get (by omega) h
    · exact wTry_get (by omega) h
theorem walk_iff : ∀ (L v : Nat), (walkF yesU l to L v).isSome = true ↔ Wk l to L v
  | 0, v => by
    rw [walkF, Wk]
    split
    · rename_i h; exact ⟨fun _ => h, fun _ => rfl⟩
    · rename_i h; exact ⟨fun h' => absurd h' (by simp), fun h' => absurd h' h⟩
  | L + 1, v => by
    rw [walkF, Wk]
    constructor
    · intro h
      obtain ⟨w, hw⟩ := Option.isSome_iff_exists.1 h
      obtain ⟨j, w', h1, h2, h3⟩ := wTry_get (by omega) hw
      exact ⟨j, l.getD j (0, 0), by rw [List.getD_eq_getElem?_getD, List.getElem?_eq_getElem h1]; rfl, h2, (walk_iff L _).1 (by rw [h3]; rfl)⟩
    · rintro ⟨k, x, h1, h2, h3⟩
      have hk := (List.getElem?_eq_some_iff.1 h1).1
      have e : l.getD k (0, 0) = x := by rw [List.getD_eq_getElem?_getD, h1]; rfl
      exact wTry_some l.length 0 k (by omega) (by omega) (by rw [e]; exact h2) ((walk_iff L _).2 (by rw [e]; exact h3))
theorem walk_greedy (ho : okL n l) {far : List Int} (h : Bfs n l to far []) : ∀ (d v : Nat), v < n → far.getD v 0 = d → walkF yesU l to d v = some (greedy l far d v)
  | 0, v, hv, hd => by
    have : v = to := far_wk (d := 0) h hv hd
    rw [walkF, if_pos this, greedy]
  | d + 1, v, hv, hd => by
    have key : ∀ (c k : Nat), k + c = l.length → wTry yesU l (walkF yesU l to d) v c k = (match fndK l far v c k with
      | some j => some (j :: greedy l far d (oth (l.getD j (0, 0)) v))
      | none => none) := by
      intro c
      induction c with
      | zero => intro k _; rfl
      | succ c ih =>
        intro k hk
        rw [wTry, fndK]
        have hgi := good_iff (k := k) ho h hv hd
        by_cases hg : goodK l far v k = true
        · obtain ⟨g1, g2, g3⟩ := hgi.1 hg
          obtain ⟨e1, e2, e3, e4⟩ := goodK_some ho hg
          rw [if_pos hg, if_pos (by rw [g2]; rfl), walk_greedy ho h d _ e2 (by rw [e4, hd]; omega)]
        · rw [if_neg hg]
          split
          · rename_i ht
            have ht' : touch (l.getD k (0, 0)) v = true := by simpa [yesU] using ht
            split
            · rename_i w hw
              exact absurd (hgi.2 ⟨by omega, ht', (walk_iff d _).1 (by rw [hw]; rfl)⟩) hg
            · exact ih (k + 1) (by omega)
          · exact ih (k + 1) (by omega)
    rw [walkF, key l.length 0 (by omega), greedy]
    have hd1 : far[v]? = some ((d + 1 : Nat) : Int) := by
      rw [List.getElem?_eq_getElem (by rw [h.inv.len]; exact hv)]
      rw [List.getD_eq_getElem?_getD, List.getElem?_eq_getElem (by rw [h.inv.len]; exact hv)] at hd
      simpa using hd
    obtain ⟨k, x, h1, h2, h3⟩ := far_wk h hv hd
    have hk := (List.getElem?_eq_some_iff.1 h1).1
    have e : l.getD k (0, 0) = x := by rw [List.getD_eq_getElem?_getD, h1]; rfl
    obtain ⟨j, hj⟩ := fndK_first l.length 0 k (by omega) (by omega) ((good_iff ho h hv hd).2 ⟨hk, by rw [e]; exact h2, by rw [e]; exact h3⟩)
    rw [hj]
theorem longR_at (ho : okL n l) {far : List Int} (h : Bfs n l to far []) {fr d : Nat} (hfr : fr < n) (hd : far.getD fr 0 = d) : ∀ (c L : Nat), L ≤ d → d < L + c → longR yesU l to fr c L = some (greedy l far d fr)
  | 0, L, h1, h2 => by omega
  | c + 1, L, h1, h2 => by
    rw [longR]
    by_cases e : L = d
    · subst e; rw [walk_greedy ho h L fr hfr hd]
    · cases hw : walkF yesU l to L fr with
      | none => exact longR_at ho h hfr hd c (L + 1) (by omega) (by omega)
      | some w =>
        have := (far_le ho h L fr hfr ((walk_iff L fr).1 (by rw [hw]; rfl))).2
        omega
theorem wk_rch (ho : okL n l) : ∀ (L v : Nat), Wk l to L v → Rch yesU l v to
  | 0, v, h => by rw [show v = to from h]; exact .refl _
  | L + 1, v, h => by
    obtain ⟨k, x, h1, h2, h3⟩ := h
    have ha : Adj yesU l v (oth x v) := by
      refine ⟨k, x, h1, rfl, ?_⟩
      simp only [touch, Bool.or_eq_true, decide_eq_true_eq] at h2
      simp only [oth]; omega
    exact ((Rch.refl _).step ha).trans (wk_rch ho L _ h3)
theorem rch_wk {v : Nat} (h : Rch yesU l to v) : ∃ L, Wk l to L v := by
  induction h with
  | refl => exact ⟨0, rfl⟩
  | @step a b hr ha ih =>
    obtain ⟨L, hL⟩ := ih
    obtain ⟨k, x, h1, _, h3⟩ := ha
    refine ⟨L + 1, k, x, h1, ?_, ?_⟩
    · simp only [touch, Bool.or_eq_true, decide_eq_true_eq]; omega
    · have : oth x b = a := by simp only [oth]; omega
      rw [this]; exact hL
theorem way_short (hn : n ≤ 24) (ho : okL n l) {fr : Nat} (hfr : fr < n) (hto : to < n) : wayR n l fr to = shortR yesU n l fr to := by
  have h := bfs_far (to := to) (by omega : n ≤ 1000) ho hto
  unfold wayR shortR
  generalize farF n l to = far at h
  have hj := joined_rch (use := yesU) ho hfr hto
  by_cases c : far.getD fr 0 < 0
  · rw [if_pos c, if_neg]
    intro hg
    obtain ⟨L, hL⟩ := rch_wk (hj.1 hg).symm
    have := (far_le ho h L fr hfr hL).1
    omega
  · obtain ⟨d, hd⟩ : ∃ d : Nat, far.getD fr 0 = d := ⟨(far.getD fr 0).toNat, by omega⟩
    have hd1 : far[fr]? = some (d : Int) := by
      rw [List.getElem?_eq_getElem (by rw [h.inv.len]; exact hfr)]
      rw [List.getD_eq_getElem?_getD, List.getElem?_eq_getElem (by rw [h.inv.len]; exact hfr)] at hd
      simpa using hd
    have hb := h.inv.bnd fr d hd1
    rw [if_neg c, if_pos (hj.2 (wk_rch ho d fr (far_wk h hfr hd))), longR_at ho h hfr hd n 0 (by omega) (by omega), hd, Int.toNat_natCast]
end
end Go.Proofs.Ytcclbkkgpcpikaa

/-
  Own memory numbered anew: rows of rows.
-/
import Derived.Test.YtcclbkkgpcpikaaAm32
set_option linter.unusedSimpArgs false
set_option linter.unusedVariables false
namespace Go.Am

theorem noIds_ids {v : PV} (h : noIds v = true) : idsOf v = [] := by
  cases v with
  | agg cs =>
    simp only [noIds, List.all_eq_true] at h
    simp only [idsOf, List.flatMap_eq_nil_iff]
    intro c hc
    have := h c hc
    cases c <;> simp_all [idsOf1]
  | func f a c =>
    simp only [noIds, Bool.and_eq_true, List.isEmpty_iff] at h
    simp [idsOf, h.1, h.2]
  | ref | ptr | map => cases h
  | _ => rfl
theorem noIds_ok {v : PV} (h : noIds v = true) : okIds v = true := by
  cases v with
  | agg cs =>
    simp only [noIds, List.all_eq_true] at h
    simp only [okIds, List.all_eq_true]
    intro c hc
    have := h c hc
    cases c <;> simp_all [okIds1]
  | func f a c =>
    simp only [noIds, Bool.and_eq_true, List.isEmpty_iff] at h
    simp [okIds, h.1, h.2]
  | tup vs => simpa [noIds, okIds] using h
  | ref | ptr | map => cases h
  | _ => rfl
theorem flat_ids {m : Mem} (h : flatM m = true) : idsM m = [] ∧ okM m = true ∧ ∀ l, renM l m = m := ⟨idsM_flat h, okM_flat h, renM_flat h⟩
theorem pos_app {l : List Nat} {i : Nat} : ∀ {k : Nat}, l[k]? = some i → (∀ j, j < k → l[j]? ≠ some i) → pos i l = k := by
  induction l with
  | nil => intro k h; simp at h
  | cons a l ih =>
    intro k h hn
    rw [pos_cons]
    cases k with
    | zero => simp at h; rw [if_pos h.symm]
    | succ k =>
      have h0 := hn 0 (by omega)
      simp at h0
      rw [if_neg (fun e => h0 e.symm), ih (k := k) (by simpa using h) (fun j hj => by have := hn (j + 1) (by omega); simpa using this)]
theorem pos_range {i k : Nat} (h : i < k) : pos i (List.range k) = i :=
  pos_app (by simp [h]) (fun j hj => by rw [List.getElem?_range (by omega)]; simp; omega)
theorem ren1_same {l : List Nat} {v : PV} (h : ∀ i ∈ idsOf1 v, pos i l = i) : ren1 l v = v := by
  cases v <;> simp_all [idsOf1, ren1]
theorem ren_same {l : List Nat} {v : PV} (h : ∀ i ∈ idsOf v, pos i l = i) : ren l v = v := by
  cases v with
  | agg cs =>
    simp only [ren, PV.agg.injEq]
    simp only [idsOf, List.mem_flatMap] at h
    conv => rhs; rw [← List.map_id cs]
    exact List.map_congr_left fun c hc => ren1_same fun i hi => h i ⟨c, hc, hi⟩
  | func f a c =>
    simp only [ren, PV.func.injEq, true_and]
    simp only [idsOf, List.mem_append, List.mem_flatMap] at h
    constructor
    · conv => rhs; rw [← List.map_id a]
      exact List.map_congr_left fun c hc => ren1_same fun i hi => h i (.inl ⟨c, hc, hi⟩)
    · conv => rhs; rw [← List.map_id c]
      exact List.map_congr_left fun c hc => ren1_same fun i hi => h i (.inr ⟨c, hc, hi⟩)
  | _ => simp only [ren]; exact ren1_same (by simpa only [idsOf] using h)
theorem renM_same {l : List Nat} {m : Mem} (h : ∀ i ∈ idsM m, pos i l = i) : renM l m = m := by
  cases hf : flatM m with
  | true => exact renM_flat hf l
  | false =>
    cases m with
    | row es z b =>
      rw [renM_rows hf]
      rw [idsM_row hf] at h
      congr 1
      conv => rhs; rw [← List.map_id es]
      refine List.map_congr_left fun c hc => ?_
      conv => rhs; rw [id, ← List.map_id c]
      exact List.map_congr_left fun v hv => ren_same fun i hi => h i (List.mem_flatMap.2 ⟨c, hc, List.mem_flatMap.2 ⟨v, hv, hi⟩⟩)
    | map es =>
      simp only [renM, hf, cond_false]
      simp only [idsM, hf, cond_false, List.mem_flatMap, List.mem_append] at h
      congr 1
      conv => rhs; rw [← List.map_id es]
      refine List.map_congr_left fun x hx => ?_
      rw [ren_same fun i hi => h i ⟨x, hx, .inl hi⟩, ren_same fun i hi => h i ⟨x, hx, .inr hi⟩]; rfl
    | dead => simp only [renM, hf, cond_false]
theorem omap_all {α β : Type} {f : α → Option β} {g : α → β} : ∀ {l : List α}, (∀ x ∈ l, f x = some (g x)) → omap f l = some (l.map g)
  | [], _ => rfl
  | x :: l, h => by rw [omap_cons', h x List.mem_cons_self, omap_all fun y hy => h y (List.mem_cons_of_mem _ hy)]; rfl
/-- Own memory that is numbered well already. -/
theorem compact_range {tm : List (Nat × PV)} {H : List Mem} {k : Nat} (hk : k ≤ H.length) (hids : closeStep H (closeStep H (closeStep H (idsT tm))) = List.range k) (hok : tm.all (fun x => okIds x.2) = true) (htm : ∀ x ∈ tm, ∀ i ∈ idsOf x.2, i < k)
    (hm : ∀ i m, i < k → H[i]? = some m → okM m = true ∧ ∀ j ∈ idsM m, j < k) : compact tm H = some ⟨tm, H.take k⟩ := by
  rw [compact_run, hids, compactK, if_pos hok]
  have h1 : omap (fun i => (H[i]?).bind fun m => if (okM m && (idsM m).all (List.range k).contains) = true then some (renM (List.range k) m) else none) (List.range k) = some (H.take k) := by
    have h2 : (List.range k).map (fun i => H[i]?.getD .dead) = H.take k := by
      apply List.ext_getElem?
      intro i
      rw [List.getElem?_map, List.getElem?_take]
      by_cases hi : i < k
      · rw [List.getElem?_range hi, if_pos hi, Option.map_some, List.getElem?_eq_getElem (by omega)]; rfl
      · rw [if_neg hi, List.getElem?_eq_none (by simp; omega)]; rfl
    rw [← h2]
    refine omap_all fun i hi => ?_
    have hik : i < k := by simpa using hi
    obtain ⟨m, hH⟩ : ∃ m, H[i]? = some m := ⟨H[i]'(by omega), List.getElem?_eq_getElem (by omega)⟩
    obtain ⟨h3, h4⟩ := hm i m hik hH
    rw [hH]
    simp only [Option.bind_some, Option.getD_some, h3, Bool.true_and]
    rw [if_pos (by rw [List.all_eq_true]; intro j hj; simpa using h4 j hj), renM_same fun j hj => pos_range (h4 j hj)]
  rw [h1, Option.map_some]
  congr 2
  conv => rhs; rw [← List.map_id tm]
  refine List.map_congr_left fun x hx => ?_
  rw [ren_same fun i hi => pos_range (htm x hx i hi)]; rfl

/-- The places of rows. -/
noncomputable def refAt (b k w i : Nat) : List PV := if i < k then [.ref (i + b) 0 w w] else [.nils]
noncomputable def refsRow (b n k w : Nat) : List (List PV) := (List.range n).map (refAt b k w)
theorem refsRow_len (b n k w : Nat) : (refsRow b n k w).length = n := by simp [refsRow]
theorem refsRow_get {b n k w i : Nat} (hi : i < k) (hk : k ≤ n) : (refsRow b n k w)[i]? = some [.ref (i + b) 0 w w] := by
  rw [refsRow, List.getElem?_map, List.getElem?_range (by omega), Option.map_some, refAt, if_pos hi]
theorem refsRow_nil {b n k w i : Nat} (hi : k ≤ i) (hk : i < n) : (refsRow b n k w)[i]? = some [.nils] := by
  rw [refsRow, List.getElem?_map, List.getElem?_range (by omega), Option.map_some, refAt, if_neg (by omega)]
theorem refsRow_set {b n k w : Nat} (hk : k < n) : (refsRow b n k w).set k [.ref (k + b) 0 w w] = refsRow b n (k + 1) w := by
  apply List.ext_getElem?
  intro i
  rw [List.getElem?_set, refsRow_len]
  by_cases hi : k = i
  · subst hi
    rw [if_pos rfl, if_pos hk, refsRow_get (by omega) (by omega)]
  · rw [if_neg hi]
    by_cases hn : i < n
    · by_cases hik : i < k
      · rw [refsRow_get hik (by omega), refsRow_get (by omega) (by omega)]
      · rw [refsRow_nil (by omega) hn, refsRow_nil (by omega) hn]
    · rw [List.getElem?_eq_none (by rw [refsRow_len]; omega), List.getElem?_eq_none (by rw [refsRow_len]; omega)]
theorem refsRow_zero (b n w : Nat) : refsRow b n 0 w = List.replicate n [.nils] := by
  apply List.ext_getElem?
  intro i
  by_cases hn : i < n
  · rw [refsRow_nil (by omega) hn, List.getElem?_replicate_of_lt hn]
  · rw [List.getElem?_eq_none (by rw [refsRow_len]; omega), List.getElem?_eq_none (by simp; omega)]
theorem refsRow_idsL {b w k : Nat} : ∀ {n : Nat}, k ≤ n → ((List.range n).map (refAt b k w)).flatMap (fun c => c.flatMap idsOf) = (List.range k).map (· + b)
  | 0, h => by have : k = 0 := by omega
               subst this; rfl
  | n + 1, h => by
    by_cases hk : k ≤ n
    · rw [List.range_succ, List.map_append, List.flatMap_append, refsRow_idsL hk]
      simp [refAt, show ¬ n < k by omega, idsOf, idsOf1]
    · have hkn : k = n + 1 := by omega
      subst hkn
      have : (List.range (n + 1)).map (refAt b (n + 1) w) = (List.range (n + 1)).map fun i => [PV.ref (i + b) 0 w w] := by
        refine List.map_congr_left fun i hi => ?_
        simp only [refAt, if_pos (by simpa using hi : i < n + 1)]
      rw [this, List.flatMap_map]
      have h2 : ∀ l : List Nat, l.flatMap (fun a => [PV.ref (a + b) 0 w w].flatMap idsOf) = l.map (· + b) := by
        intro l
        induction l with
        | nil => rfl
        | cons a l ih => rw [List.flatMap_cons, ih]; rfl
      exact h2 _
theorem refsRow_M (b n k w : Nat) (hk : k ≤ n) (m : Bool) : okM (.row (refsRow b n k w) 1 m) = true ∧ idsM (.row (refsRow b n k w) 1 m) = (List.range k).map (· + b) := by
  cases hf : flatM (.row (refsRow b n k w) 1 m) with
  | true =>
    refine ⟨okM_flat hf, ?_⟩
    rw [idsM_flat hf]
    rw [flatM_row, List.all_eq_true] at hf
    cases k with
    | zero => rfl
    | succ k =>
      have := hf [.ref (0 + b) 0 w w] (List.mem_of_getElem? (refsRow_get (i := 0) (by omega) hk))
      simp [noIds] at this
  | false =>
    refine ⟨?_, by rw [idsM_row hf]; exact refsRow_idsL hk⟩
    rw [okM_row hf, List.all_eq_true]
    intro c hc
    simp only [refsRow, List.mem_map] at hc
    obtain ⟨i, _, rfl⟩ := hc
    unfold refAt
    split <;> rfl
theorem addNew_all : ∀ {l l' : List Nat}, (∀ x ∈ l', x ∈ l) → l'.foldl addNew l = l
  | _, [], _ => rfl
  | l, x :: r, h => by
    rw [List.foldl_cons, addNew_eq, if_pos (h x List.mem_cons_self)]
    exact addNew_all fun y hy => h y (List.mem_cons_of_mem _ hy)
theorem addNew_range (b : Nat) : ∀ k : Nat, ((List.range k).map (· + b)).foldl addNew (List.range b) = List.range (b + k)
  | 0 => rfl
  | k + 1 => by
    rw [List.range_succ, List.map_append, List.foldl_append, addNew_range b k, List.map_cons, List.map_nil, List.foldl_cons, List.foldl_nil, addNew_eq, if_neg (by simp; omega)]
    rw [show b + (k + 1) = (b + k) + 1 by omega, List.range_succ, Nat.add_comm k b]
/-- A row of rows at 0, flat memory behind it, then its rows. -/
theorem compact_rows {tm : List (Nat × PV)} {b n k w : Nat} {mm : Bool} {pre rows junk : List Mem} (hb : pre.length + 1 = b) (hrl : rows.length = k) (hkn : k ≤ n) (hp : ∀ m ∈ pre, flatM m = true) (hr : ∀ m ∈ rows, flatM m = true)
    (hids : idsT tm = List.range b) (hok : tm.all (fun x => okIds x.2) = true) : compact tm (.row (refsRow b n k w) 1 mm :: (pre ++ (rows ++ junk))) = some ⟨tm, .row (refsRow b n k w) 1 mm :: (pre ++ rows)⟩ := by
  have hz : ∀ i, 0 < i → i < b + k → idsAt (.row (refsRow b n k w) 1 mm :: (pre ++ (rows ++ junk))) i = [] := by
    intro i h0 hi
    obtain ⟨j, rfl⟩ : ∃ j, i = j + 1 := ⟨i - 1, by omega⟩
    rw [idsAt_eq, List.getElem?_cons_succ]
    by_cases hj : j < pre.length
    · rw [List.getElem?_append_left hj, List.getElem?_eq_getElem hj]
      exact (flat_ids (hp _ (List.getElem_mem hj))).1
    · rw [List.getElem?_append_right (by omega), List.getElem?_append_left (by omega), List.getElem?_eq_getElem (by omega)]
      exact (flat_ids (hr _ (List.getElem_mem _))).1
  have h0 : idsAt (.row (refsRow b n k w) 1 mm :: (pre ++ (rows ++ junk))) 0 = (List.range k).map (· + b) := by
    rw [idsAt_eq]; exact (refsRow_M b n k w hkn mm).2
  have hfm : ∀ c, 1 ≤ c → c ≤ b + k → (List.range c).flatMap (idsAt (.row (refsRow b n k w) 1 mm :: (pre ++ (rows ++ junk)))) = (List.range k).map (· + b) := by
    intro c hc hck
    obtain ⟨d, rfl⟩ : ∃ d, c = d + 1 := ⟨c - 1, by omega⟩
    rw [List.range_succ_eq_map, List.flatMap_cons, h0]
    have : ((List.range d).map Nat.succ).flatMap (idsAt (.row (refsRow b n k w) 1 mm :: (pre ++ (rows ++ junk)))) = [] := by
      rw [List.flatMap_eq_nil_iff]
      intro x hx
      obtain ⟨y, hy, rfl⟩ := List.mem_map.1 hx
      exact hz _ (by omega) (by have : y < d := by simpa using hy
                                omega)
    rw [this, List.append_nil]
  have c1 : closeStep (.row (refsRow b n k w) 1 mm :: (pre ++ (rows ++ junk))) (List.range b) = List.range (b + k) := by
    rw [closeStep, hfm b (by omega) (by omega), addNew_range]
  have c2 : closeStep (.row (refsRow b n k w) 1 mm :: (pre ++ (rows ++ junk))) (List.range (b + k)) = List.range (b + k) := by
    rw [closeStep, hfm (b + k) (by omega) (by omega)]
    exact addNew_all fun x hx => by simp only [List.mem_map, List.mem_range] at hx ⊢; omega
  have hlen : (Mem.row (refsRow b n k w) 1 mm :: (pre ++ (rows ++ junk))).length = b + k + junk.length := by simp; omega
  rw [compact_range (k := b + k) (by omega) (by rw [hids, c1, c2, c2]) hok ?_ ?_]
  · congr 2
    obtain ⟨c, hc⟩ : ∃ c, b + k = c + 1 := ⟨b + k - 1, by omega⟩
    rw [hc, List.take_succ_cons, ← List.append_assoc, List.take_append_of_le_length (by simp; omega), List.take_of_length_le (by simp; omega)]
  · intro x hx i hi
    have : i ∈ idsT tm := by
      have hmem : i ∈ tm.flatMap fun x => idsOf x.2 := List.mem_flatMap.2 ⟨x, hx, hi⟩
      have hfold : ∀ (l acc : List Nat), (∀ y, y ∈ l ∨ y ∈ acc → y ∈ l.foldl addNew acc) := by
        intro l
        induction l with
        | nil => intro acc y hy; simpa using hy
        | cons a l ih =>
          intro acc y hy
          rw [List.foldl_cons]
          apply ih
          rw [addNew_eq]
          rcases hy with hy | hy
          · rcases List.mem_cons.1 hy with rfl | hy
            · right; split
              · assumption
              · simp
            · exact .inl hy
          · right; split
            · exact hy
            · simp [hy]
      exact hfold _ _ i (.inl hmem)
    rw [hids] at this
    have : i < b := by simpa using this
    omega
  · intro i m hi hH
    cases i with
    | zero =>
      simp only [List.getElem?_cons_zero, Option.some.injEq] at hH
      subst hH
      obtain ⟨h1, h2⟩ := refsRow_M b n k w hkn mm
      refine ⟨h1, fun j hj => ?_⟩
      rw [h2] at hj
      simp only [List.mem_map, List.mem_range] at hj
      omega
    | succ j =>
      have hfl : flatM m = true := by
        rw [List.getElem?_cons_succ] at hH
        by_cases hj : j < pre.length
        · rw [List.getElem?_append_left hj] at hH
          exact hp _ (List.mem_of_getElem? hH)
        · rw [List.getElem?_append_right (by omega), List.getElem?_append_left (by omega)] at hH
          exact hr _ (List.mem_of_getElem? hH)
      obtain ⟨h1, h2, _⟩ := flat_ids hfl
      exact ⟨h2, fun x hx => by rw [h1] at hx; cases hx⟩
theorem compact_rows0 {tm : List (Nat × PV)} {n k w : Nat} {mm : Bool} {rows : List Mem} (hrl : rows.length = k) (hkn : k ≤ n) (hr : ∀ m ∈ rows, flatM m = true) (hids : idsT tm = [0]) (hok : tm.all (fun x => okIds x.2) = true) :
    (compact tm (.row (refsRow 1 n k w) 1 mm :: rows) = some ⟨tm, .row (refsRow 1 n k w) 1 mm :: rows⟩) ∧ ∀ junk, compact tm (.row (refsRow 1 n k w) 1 mm :: (rows ++ junk)) = some ⟨tm, .row (refsRow 1 n k w) 1 mm :: rows⟩ := by
  have h := fun junk => compact_rows (tm := tm) (b := 1) (n := n) (k := k) (w := w) (mm := mm) (pre := []) (rows := rows) (junk := junk) rfl hrl hkn (by simp) hr (by rw [hids]; rfl) hok
  refine ⟨?_, h⟩
  have h0 := h []
  rwa [List.append_nil] at h0
end Go.Am

/-
  The plain law of ways over a part of the edges: they are the ways over the list of these edges alone, with their places.
-/
import Derived.Test.YtcclbkkgpcpikaaI5
import Derived.Test.YtcclbkkgpcpikaaJ4
set_option linter.unusedSimpArgs false
set_option linter.unusedVariables false
namespace Go.Proofs.Ytcclbkkgpcpikaa
/-- The edges in use, with their places. -/
def filtP (use : Nat → Bool) : Nat → List (Nat × Nat) → List ((Nat × Nat) × Nat)
  | _, [] => []
  | i, x :: r => if use i = true then (x, i) :: filtP use (i + 1) r else filtP use (i + 1) r
def wlF (rec : Nat → Option (List Nat)) (at_ : Nat) : List ((Nat × Nat) × Nat) → Option (List Nat)
  | [] => none
  | x :: r => if touch x.1 at_ = true then (match rec (oth x.1 at_) with
    | some w => some (x.2 :: w)
    | none => wlF rec at_ r) else wlF rec at_ r
theorem wTry_filt (use : Nat → Bool) (l : List (Nat × Nat)) (rec : Nat → Option (List Nat)) (at_ : Nat) : ∀ (c k : Nat), k + c = l.length → wTry use l rec at_ c k = wlF rec at_ (filtP use k (l.drop k))
  | 0, k, h => by rw [wTry, List.drop_eq_nil_of_le (by omega), filtP, wlF]
  | c + 1, k, h => by
    have hlt : k < l.length := by omega
    have hg : l.getD k (0, 0) = l[k] := by rw [List.getD_eq_getElem?_getD, List.getElem?_eq_getElem hlt]; rfl
    have ih := wTry_filt use l rec at_ c (k + 1) (by omega)
    rw [wTry, List.drop_eq_getElem_cons hlt, filtP, hg]
    cases hu : use k with
    | false => rw [Bool.false_and, if_neg (by simp), if_neg (by simp), ih]
    | true =>
      rw [Bool.true_and, if_pos rfl, wlF, ih]; rfl
theorem wTry_yes (F : List ((Nat × Nat) × Nat)) (rec : Nat → Option (List Nat)) (at_ : Nat) : ∀ (c k : Nat), k + c = F.length →
    wlF (fun u => (rec u).map fun w => w.map fun j => (F.map (·.2)).getD j 0) at_ (F.drop k) = (wTry yesU (F.map (·.1)) rec at_ c k).map fun w => w.map fun j => (F.map (·.2)).getD j 0
  | 0, k, h => by rw [wTry, List.drop_eq_nil_of_le (by omega), wlF]; rfl
  | c + 1, k, h => by
    have hlt : k < F.length := by omega
    have hg : (F.map (·.1)).getD k (0, 0) = F[k].1 := by rw [List.getD_eq_getElem?_getD, List.getElem?_map, List.getElem?_eq_getElem hlt]; rfl
    have hg2 : (F.map (·.2)).getD k 0 = F[k].2 := by rw [List.getD_eq_getElem?_getD, List.getElem?_map, List.getElem?_eq_getElem hlt]; rfl
    have ih := wTry_yes F rec at_ c (k + 1) (by omega)
    rw [wTry, List.drop_eq_getElem_cons hlt, wlF, hg, show yesU k = true from rfl, Bool.true_and]
    by_cases ht : touch F[k].1 at_ = true
    · rw [if_pos ht, if_pos ht]
      cases hr : rec (oth F[k].1 at_) with
      | none => simp only [hr, Option.map_none]; exact ih
      | some w => simp only [hr, Option.map_some, List.map_cons, hg2]
    · rw [if_neg ht, if_neg ht]; exact ih
theorem walk_filt (use : Nat → Bool) (l : List (Nat × Nat)) (to : Nat) : ∀ (d v : Nat), walkF use l to d v = (walkF yesU ((filtP use 0 l).map (·.1)) to d v).map fun w => w.map fun j => ((filtP use 0 l).map (·.2)).getD j 0
  | 0, v => by
    rw [walkF, walkF]
    split <;> rfl
  | d + 1, v => by
    rw [walkF, walkF, wTry_filt use l _ v l.length 0 (by omega), List.drop_zero]
    have hrec : walkF use l to d = fun u => (walkF yesU ((filtP use 0 l).map (·.1)) to d u).map fun w => w.map fun j => ((filtP use 0 l).map (·.2)).getD j 0 := funext fun u => walk_filt use l to d u
    rw [hrec]
    have h := wTry_yes (filtP use 0 l) (walkF yesU ((filtP use 0 l).map (·.1)) to d) v (filtP use 0 l).length 0 (by omega)
    rw [List.drop_zero] at h
    rw [h, List.length_map]
theorem long_filt (use : Nat → Bool) (l : List (Nat × Nat)) (to fr : Nat) : ∀ (c L : Nat), longR use l to fr c L = (longR yesU ((filtP use 0 l).map (·.1)) to fr c L).map fun w => w.map fun j => ((filtP use 0 l).map (·.2)).getD j 0
  | 0, L => by rw [longR, longR]; rfl
  | c + 1, L => by
    rw [longR, longR, walk_filt use l to L fr]
    cases walkF yesU ((filtP use 0 l).map (·.1)) to L fr with
    | none => simp only [Option.map_none]; exact long_filt use l to fr c (L + 1)
    | some w => rfl
theorem filtP_mem (use : Nat → Bool) (x : Nat × Nat) : ∀ (l : List (Nat × Nat)) (i : Nat), (∃ k, (x, k) ∈ filtP use i l) ↔ ∃ k, l[k]? = some x ∧ use (i + k) = true
  | [], i => by simp [filtP]
  | y :: r, i => by
    have ih := filtP_mem use x r (i + 1)
    constructor
    · rintro ⟨k, hk⟩
      rw [filtP] at hk
      have hrest : (∃ k, (x, k) ∈ filtP use (i + 1) r) → ∃ k, (y :: r)[k]? = some x ∧ use (i + k) = true := fun h => by
        obtain ⟨j, h1, h2⟩ := ih.1 h
        exact ⟨j + 1, by simpa using h1, by rw [show i + (j + 1) = i + 1 + j by omega]; exact h2⟩
      split at hk
      · rename_i hu
        rcases List.mem_cons.1 hk with h | h
        · cases h; exact ⟨0, rfl, hu⟩
        · exact hrest ⟨k, h⟩
      · exact hrest ⟨k, hk⟩
    · rintro ⟨k, h1, h2⟩
      rw [filtP]
      cases k with
      | zero =>
        simp only [List.getElem?_cons_zero, Option.some.injEq] at h1
        rw [if_pos (by simpa using h2), h1]
        exact ⟨i, List.mem_cons_self⟩
      | succ k =>
        obtain ⟨j, hj⟩ := ih.2 ⟨k, by simpa using h1, by rw [show i + 1 + k = i + (k + 1) by omega]; exact h2⟩
        split
        · exact ⟨j, List.mem_cons_of_mem _ hj⟩
        · exact ⟨j, hj⟩
theorem adj_filt (use : Nat → Bool) (l : List (Nat × Nat)) (u v : Nat) : Adj yesU ((filtP use 0 l).map (·.1)) u v ↔ Adj use l u v := by
  have hm := fun x => filtP_mem use x l 0
  constructor
  · rintro ⟨k, x, h1, _, h3⟩
    obtain ⟨y, hy, rfl⟩ := List.mem_map.1 (List.mem_of_getElem? h1)
    obtain ⟨j, h4, h5⟩ := (hm y.1).1 ⟨y.2, hy⟩
    exact ⟨j, y.1, h4, by simpa using h5, h3⟩
  · rintro ⟨k, x, h1, h2, h3⟩
    obtain ⟨j, hj⟩ := (hm x).2 ⟨k, h1, by simpa using h2⟩
    obtain ⟨i, hi⟩ := List.mem_iff_getElem?.1 (List.mem_map.2 ⟨(x, j), hj, rfl⟩ : x ∈ (filtP use 0 l).map (·.1))
    exact ⟨i, x, hi, rfl, h3⟩
theorem rch_filt (use : Nat → Bool) (l : List (Nat × Nat)) (u v : Nat) : Rch yesU ((filtP use 0 l).map (·.1)) u v ↔ Rch use l u v := by
  constructor
  · intro h
    induction h with
    | refl => exact .refl _
    | step _ h2 ih => exact .step ih ((adj_filt use l _ _).1 h2)
  · intro h
    induction h with
    | refl => exact .refl _
    | step _ h2 ih => exact .step ih ((adj_filt use l _ _).2 h2)
theorem filt_ok {n : Nat} {l : List (Nat × Nat)} (ho : okL n l) (use : Nat → Bool) : okL n ((filtP use 0 l).map (·.1)) := by
  intro x hx
  obtain ⟨y, hy, rfl⟩ := List.mem_map.1 hx
  obtain ⟨j, h1, _⟩ := (filtP_mem use y.1 l 0).1 ⟨y.2, hy⟩
  exact ho _ (List.mem_of_getElem? h1)
/-- The reference's way over the edges in use, and the way over these edges alone. -/
theorem short_filt {n : Nat} {l : List (Nat × Nat)} (ho : okL n l) (use : Nat → Bool) {fr to : Nat} (hfr : fr < n) (hto : to < n) :
    shortR use n l fr to = ((shortR yesU n ((filtP use 0 l).map (·.1)) fr to).1, (shortR yesU n ((filtP use 0 l).map (·.1)) fr to).2.map fun j => ((filtP use 0 l).map (·.2)).getD j 0) := by
  have h1 := joined_rch (use := use) ho hfr hto
  have h2 := joined_rch (use := yesU) (filt_ok ho use) hfr hto
  have h3 : gt (joinedF use n l) fr to = gt (joinedF yesU n ((filtP use 0 l).map (·.1))) fr to := by
    rw [Bool.eq_iff_iff, h1, h2, rch_filt]
  unfold shortR
  rw [h3, long_filt use l to fr n 0]
  cases gt (joinedF yesU n ((filtP use 0 l).map (·.1))) fr to with
  | false => rfl
  | true =>
    simp only [if_true]
    cases longR yesU ((filtP use 0 l).map (·.1)) to fr n 0 <;> rfl
/-- A greater number of nodes changes no way. -/
theorem short_wide {n m : Nat} {l : List (Nat × Nat)} (ho : okL n l) (hn : n ≤ m) (hm : m ≤ 1000) {fr to : Nat} (hfr : fr < n) (hto : to < n) : shortR yesU m l fr to = shortR yesU n l fr to := by
  have ho' : okL m l := fun x hx => by have := ho x hx; omega
  have h1 := joined_rch (use := yesU) ho hfr hto
  have h2 := joined_rch (use := yesU) ho' (show fr < m by omega) (show to < m by omega)
  have h3 : gt (joinedF yesU m l) fr to = gt (joinedF yesU n l) fr to := by rw [Bool.eq_iff_iff, h1, h2]
  unfold shortR
  rw [h3]
  by_cases hg : gt (joinedF yesU n l) fr to = true
  · rw [if_pos hg, if_pos hg]
    have h := bfs_far (to := to) (by omega : n ≤ 1000) ho hto
    obtain ⟨L, hL⟩ := rch_wk (h1.1 hg).symm
    have h0 := (far_le ho h L fr hfr hL).1
    generalize farF n l to = far at h h0
    obtain ⟨d, hd⟩ : ∃ d : Nat, far.getD fr 0 = d := ⟨(far.getD fr 0).toNat, by omega⟩
    have hd1 : far[fr]? = some (d : Int) := by
      rw [List.getElem?_eq_getElem (by rw [h.inv.len]; exact hfr)]
      rw [List.getD_eq_getElem?_getD, List.getElem?_eq_getElem (by rw [h.inv.len]; exact hfr)] at hd
      simpa using hd
    have hb := h.inv.bnd fr d hd1
    rw [longR_at ho h hfr hd n 0 (by omega) (by omega), longR_at ho h hfr hd m 0 (by omega) (by omega)]
  · rw [if_neg hg, if_neg hg]
end Go.Proofs.Ytcclbkkgpcpikaa

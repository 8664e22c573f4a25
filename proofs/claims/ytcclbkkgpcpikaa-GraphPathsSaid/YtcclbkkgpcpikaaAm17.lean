/-
  Regions that draw the order of their operations: every order comes to what the order of the text comes to.
-/
import Derived.Test.YtcclbkkgpcpikaaAm16
set_option linter.unusedSimpArgs false
set_option linter.unusedVariables false
namespace Go.Am
open Go.RowKit

/-! the variables behind a set of operations -/
section
variable {φ φ' : Phi} {w w' : World} {S S' : Nat → Prop} {B N : Nat}
def tmD (D : Nat → Bool) (dst : Nat → Option Tmp) (v : Nat → PV) (tm0 : List (Nat × PV)) : Nat → List (Nat × PV)
  | 0 => tm0
  | i + 1 => match D i, dst i with
    | true, some d => (d, v i) :: tmD D dst v tm0 i
    | _, _ => tmD D dst v tm0 i

variable {D D' : Nat → Bool} {dst : Nat → Option Tmp} {v : Nat → PV} {tm0 : List (Nat × PV)}
theorem tmD_congr (t : Nat) : ∀ n, (∀ i, i < n → dst i = some t → D i = D' i) → get (tmD D dst v tm0 n) t = get (tmD D' dst v tm0 n) t
  | 0, _ => rfl
  | n + 1, h => by
    have ih := tmD_congr t n fun i hi => h i (by omega)
    simp only [tmD]
    cases hd : dst n with
    | none => cases D n <;> cases D' n <;> exact ih
    | some d =>
      by_cases hdt : d = t
      · subst hdt
        rw [← h n (by omega) hd]
        cases D n with
        | true => simp [get_cons]
        | false => exact ih
      · have g : ∀ (D : Nat → Bool), get (match D n, some d with | true, some d => (d, v n) :: tmD D dst v tm0 n | _, _ => tmD D dst v tm0 n) t = get (tmD D dst v tm0 n) t := by
          intro D
          cases D n with
          | true => simp only [get_cons, if_neg (fun e : t = d => hdt e.symm)]
          | false => rfl
        rw [g, g, ih]
theorem tmD_below {k : Nat} : ∀ n, k ≤ n → (∀ i, k ≤ i → i < n → D i = false) → tmD D dst v tm0 n = tmD D dst v tm0 k
  | 0, h, _ => by rw [show k = 0 from by omega]
  | n + 1, h, hd => by
    rcases Nat.lt_or_ge n k with h' | h'
    · rw [show k = n + 1 from by omega]
    · simp only [tmD, hd n h' (by omega)]
      exact tmD_below n h' fun i h1 h2 => hd i h1 (by omega)
theorem tmD_put {j : Nat} (hj : D j = false) (hj' : D' j = true) (hs : ∀ i, i ≠ j → D' i = D i) {d : Nat} (hd : dst j = some d) (t : Nat) : ∀ n, j < n → (∀ i, j < i → i < n → D i = true → dst i ≠ some d) →
    get (tmD D' dst v tm0 n) t = get ((d, v j) :: tmD D dst v tm0 n) t
  | 0, h, _ => by omega
  | n + 1, h, hc => by
    by_cases hjn : j = n
    · subst hjn
      simp only [tmD, hj, hj', hd]
      rw [get_cons, get_cons]
      have := tmD_congr (D := D') (D' := D) (dst := dst) (v := v) (tm0 := tm0) t j (fun i hi _ => hs i (by omega))
      rw [this]
    · have ih := tmD_put hj hj' hs hd t n (by omega) fun i h1 h2 => hc i h1 (by omega)
      simp only [tmD, hs n (fun e => hjn e.symm)]
      cases hDn : D n with
      | false => exact ih
      | true =>
        cases he : dst n with
        | none => exact ih
        | some e =>
          have hne : e ≠ d := fun h' => hc n (by omega) (by omega) hDn (by rw [he, h'])
          simp only [get_cons] at ih ⊢
          rw [ih]
          by_cases h1 : t = e
          · subst h1; simp [hne]
          · simp [h1]
theorem tmD_put0 {j : Nat} (hj' : D' j = true) (hs : ∀ i, i ≠ j → D' i = D i) (hd : dst j = none) (t : Nat) (n : Nat) : get (tmD D' dst v tm0 n) t = get (tmD D dst v tm0 n) t :=
  tmD_congr t n fun i _ hi => hs i (by rintro rfl; rw [hd] at hi; cases hi)
theorem TRel.congr {tm tm' : List (Nat × PV)} {a : Act} (ht : TRel φ w S N tm a) (h : ∀ t, get tm' t = get tm t) : TRel φ w S N tm' a :=
  ⟨ht.1, ht.2.1, fun i p hp => ht.2.2 i p (by rw [← h]; exact hp)⟩
end

/-! memory that is only added to and frozen -/
def Frz (H H' : List Mem) : Prop := H.length ≤ H'.length ∧ ∀ (id : Nat) (m : Mem), H[id]? = some m → H'[id]? = some m ∨ ∃ es z b, m = .row es z b ∧ H'[id]? = some (.row es z false)
theorem Frz.refl (H : List Mem) : Frz H H := ⟨Nat.le_refl _, fun _ _ h => .inl h⟩
theorem Frz.trans {H H' H'' : List Mem} (h : Frz H H') (h' : Frz H' H'') : Frz H H'' := ⟨Nat.le_trans h.1 h'.1, fun id m hm => by
  rcases h.2 id m hm with h1 | ⟨es, z, b, rfl, h1⟩
  · exact h'.2 id m h1
  · rcases h'.2 id _ h1 with h2 | ⟨es', z', b', h3, h2⟩
    · exact .inr ⟨es, z, b, rfl, h2⟩
    · cases h3; exact .inr ⟨es, z, b, rfl, h2⟩⟩
theorem Frz.sub {H H' : List Mem} (h : Frz H H') : Sub H H' := fun id m hm => by
  rcases h.2 id m hm with h1 | ⟨es, z, b, rfl, h1⟩
  · exact ⟨m, h1, simM.refl m⟩
  · exact ⟨_, h1, by simp [simM]⟩
theorem freeze_frz : ∀ (ids : List Nat) (H : List Mem), Frz H (freeze ids H)
  | [], H => Frz.refl H
  | i :: ids, H => by
    show Frz H (freeze ids (freeze1 H i))
    refine Frz.trans ⟨by rw [freeze1_length]; exact Nat.le_refl _, ?_⟩ (freeze_frz ids _)
    intro id m hm
    rcases freeze1_get H i id with h1 | ⟨rfl, es, z, b, h1, h2⟩
    · exact .inl (by rw [h1]; exact hm)
    · rw [hm] at h1; cases h1; exact .inr ⟨es, z, b, rfl, h2⟩
theorem Frz.app (H ms : List Mem) : Frz H (H ++ ms) := ⟨by simp, fun id m hm => .inl (by rw [List.getElem?_append_left (List.getElem?_eq_some_iff.1 hm).1]; exact hm)⟩
theorem freeze_at : ∀ (ids : List Nat) (H : List Mem) (id : Nat), id ∈ ids → ∀ es z m, (freeze ids H)[id]? = some (.row es z m) → m = false
  | i :: ids, H, id, hid, es, z, m, h => by
    have h' : (freeze ids (freeze1 H i))[id]? = some (.row es z m) := h
    by_cases hi : id ∈ ids
    · exact freeze_at ids _ id hi es z m h'
    · have hid : id = i := by rcases List.mem_cons.1 hid with h | h; exact h; exact absurd h hi
      subst hid
      obtain ⟨b, hb⟩ := freeze_row ids _ _ _ _ _ h'
      have : b = false := by
        rcases freeze1_get H id id with h1 | ⟨_, es', z', b', h1, h2⟩
        · unfold freeze1 at hb
          split at hb
          · rename_i hx
            rw [List.getElem?_set_self (List.getElem?_eq_some_iff.1 hx).1] at hb
            cases hb; rfl
          · rename_i hno
            exact absurd hb (hno _ _ _)
        · rw [h2] at hb; cases hb; rfl
      subst this
      rcases (freeze_frz ids (freeze1 H id)).2 id _ hb with h3 | ⟨_, _, _, _, h3⟩
      · rw [h'] at h3; cases h3; rfl
      · rw [h'] at h3; cases h3; rfl

section
variable {P : Program} {h : Hints} {E : Ev} {w : World} {φ : Phi} {S : Nat → Prop} {B : Nat} {H H' : List Mem} {N : Nat}

theorem Inv.frz (hI : Inv φ H w S B) (hf : Frz H H') : ∃ S', Inv φ H' w S' B ∧ Evo H.length B φ S w φ S' w := by
  let l := (List.range H.length).filter fun i => match H'[i]? with | some (.row _ _ false) => true | _ => false
  obtain ⟨S', h1, h2, h3⟩ := hI.freeze l
  refine ⟨S', h1.reheap ?_ (by rw [freeze_length]; exact hf.1), h2⟩
  intro i l' hl
  left
  have hlt := (hI.live i l' hl).2.2
  obtain ⟨m, hm⟩ : ∃ m, H[i]? = some m := ⟨H[i], by simp [hlt]⟩
  rcases (freeze_frz l H).2 i m hm with h4 | ⟨es, z, b, rfl, h4⟩
  · rw [h4]
    rcases hf.2 i m hm with h5 | ⟨es, z, b, rfl, h5⟩
    · exact h5
    · have : i ∈ l := by
        simp only [l, List.mem_filter, List.mem_range]
        exact ⟨hlt, by rw [h5]⟩
      have := freeze_at l H i this _ _ _ h4
      subst this
      exact h5
  · rw [h4]
    rcases hf.2 i _ hm with h5 | ⟨es', z', b', h6, h5⟩
    · cases b with
      | false => exact h5
      | true =>
        -- frozen only where the later memory has it frozen
        have : i ∉ l := by
          simp only [l, List.mem_filter, List.mem_range]
          rintro ⟨_, hx⟩
          rw [h5] at hx
          cases hx
        exfalso
        have keep : ∀ (ids : List Nat) (H : List Mem), i ∉ ids → (Am.freeze ids H)[i]? = H[i]? := by
          intro ids
          induction ids with
          | nil => intro H _; rfl
          | cons j ids ih =>
            intro H hi
            show (Am.freeze ids (Am.freeze1 H j))[i]? = _
            rw [ih _ (fun hx => hi (List.mem_cons_of_mem _ hx))]
            rcases freeze1_get H j i with h7 | ⟨rfl, _⟩
            · exact h7
            · exact absurd List.mem_cons_self hi
        rw [keep l H this, hm] at h4
        cases h4
    · cases h6; exact h5
end
end Go.Am

/-
  A number's text out of its digits to the base 10^9.
-/
import Derived.Test.YtlnimeapichgmaaDoorDe
set_option linter.constructorNameAsVariable false
set_option linter.unusedSimpArgs false
set_option linter.unusedVariables false
namespace Dv
open Go Go.Lib
def pvN : List Nat → Nat
  | [] => 0
  | p :: r => p + 1000000000 * pvN r
def pad9 (p : Nat) : List UInt8 := List.replicate (9 - (decDigits p).length) 48 ++ decDigits p
def joinP : List Nat → List UInt8
  | [] => []
  | p :: r => match r with
    | [] => decDigits p
    | _ :: _ => joinP r ++ pad9 p
theorem joinP_one (p : Nat) : joinP [p] = decDigits p := rfl
theorem joinP_cons (p : Nat) {r : List Nat} (h : r ≠ []) : joinP (p :: r) = joinP r ++ pad9 p := by
  cases r with
  | nil => exact absurd rfl h
  | cons _ _ => rfl
theorem dec_zeros (k : Nat) (s : List UInt8) : dec (List.replicate k 48 ++ s) = dec s := by
  induction k with
  | zero => rfl
  | succ k ih => rw [List.replicate_succ, List.cons_append, dec_cons, ih]; simp
theorem pad9_spec {p : Nat} (h : p < 1000000000) : (pad9 p).length = 9 ∧ Dg (pad9 p) ∧ dec (pad9 p) = p := by
  have h9 := (digits_len (n := p) (k := 9) (by decide)).2 h
  refine ⟨by rw [pad9, List.length_append, List.length_replicate]; omega, ?_, by rw [pad9, dec_zeros, dec_digits]⟩
  refine Dg.app ?_ (dg_digits p)
  intro c hc
  rw [List.eq_of_mem_replicate hc]
  decide
theorem Cn.head {s : List UInt8} (h : Cn s) (h1 : 1 ≤ dec s) : s.head? ≠ some 48 := by
  rcases s with _ | ⟨c, s⟩
  · exact absurd rfl h.1
  · rcases s with _ | ⟨d, s⟩
    · rw [dec_one] at h1
      simp only [List.head?_cons, ne_eq, Option.some.injEq]
      rintro rfl
      exact absurd h1 (by decide)
    · exact h.2.2 (by simp)
theorem joinP_spec : ∀ {ns : List Nat}, ns ≠ [] → (∀ p ∈ ns, p < 1000000000) → (2 ≤ ns.length → ns.getLast? ≠ some 0) → Cn (joinP ns) ∧ dec (joinP ns) = pvN ns
  | [], h, _, _ => absurd rfl h
  | [p], _, _, _ => by
    rw [joinP_one, dec_digits]
    exact ⟨cn_digits p, by simp [pvN]⟩
  | p :: q :: r, _, h2, h3 => by
    have h3' : (q :: r).getLast? ≠ some 0 := by
      have := h3 (by simp)
      rwa [List.getLast?_cons_cons] at this
    obtain ⟨h4, h5⟩ := joinP_spec (ns := q :: r) (by simp) (fun x hx => h2 x (List.mem_cons_of_mem _ hx)) fun _ => h3'
    obtain ⟨h6, h7, h8⟩ := pad9_spec (h2 p List.mem_cons_self)
    have hpos : 1 ≤ pvN (q :: r) := by
      have : ∀ l : List Nat, l ≠ [] → l.getLast? ≠ some 0 → 1 ≤ pvN l := by
        intro l
        induction l with
        | nil => intro h; exact absurd rfl h
        | cons x l ih =>
          intro _ hl
          cases l with
          | nil =>
            have : x ≠ 0 := fun e => hl (by rw [e]; rfl)
            simp only [pvN]; omega
          | cons y l =>
            have := ih (by simp) (by rwa [List.getLast?_cons_cons] at hl)
            simp only [pvN] at this ⊢
            omega
      exact this _ (by simp) h3'
    have e : joinP (p :: q :: r) = joinP (q :: r) ++ pad9 p := rfl
    rw [e, dec_app, h5, h6, h8]
    refine ⟨⟨by simp [h4.1], h4.2.1.app h7, fun _ => ?_⟩, by show _ = p + 1000000000 * pvN (q :: r); omega⟩
    have := h4.head (by rw [h5]; exact hpos)
    cases hj : joinP (q :: r) with
    | nil => exact absurd hj h4.1
    | cons x t => rw [hj] at this; simpa using this
theorem joinP_eq {ns : List Nat} (h1 : ns ≠ []) (h2 : ∀ p ∈ ns, p < 1000000000) (h3 : 2 ≤ ns.length → ns.getLast? ≠ some 0) : joinP ns = decDigits (pvN ns) := by
  obtain ⟨h4, h5⟩ := joinP_spec h1 h2 h3
  rw [← h4.eq, h5]
theorem pvN_app : ∀ (l : List Nat) (p : Nat), pvN (l ++ [p]) = pvN l + 1000000000 ^ l.length * p
  | [], p => by simp [pvN]
  | x :: l, p => by
    rw [List.cons_append, pvN, pvN_app l p, pvN, List.length_cons, Nat.pow_succ, Nat.mul_add, ← Nat.mul_assoc, Nat.mul_comm 1000000000 (1000000000 ^ l.length)]
    omega
theorem joinP_len : ∀ (ns : List Nat), (∀ p ∈ ns, p < 1000000000) → (joinP ns).length ≤ 9 * ns.length
  | [], _ => by simp [joinP]
  | [p], h => by
    rw [joinP_one]
    have := (digits_len (n := p) (k := 9) (by decide)).2 (h p (by simp))
    simpa using this
  | p :: q :: r, h => by
    have h1 := joinP_len (q :: r) fun x hx => h x (List.mem_cons_of_mem _ hx)
    have h2 := (pad9_spec (h p (by simp))).1
    have e : joinP (p :: q :: r) = joinP (q :: r) ++ pad9 p := rfl
    rw [e, List.length_append, h2]
    simp only [List.length_cons] at h1 ⊢
    omega
end Dv

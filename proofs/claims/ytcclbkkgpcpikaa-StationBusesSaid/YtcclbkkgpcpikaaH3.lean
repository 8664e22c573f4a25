import Derived.Test.YtcclbkkgpcpikaaH2
set_option linter.unusedSimpArgs false
set_option linter.unusedVariables false
namespace Go.Proofs.Ytcclbkkgpcpikaa
open Go.Am
set_option maxRecDepth 100000
noncomputable def accN (i : Nat) : List Nat → PV
  | [] => .nils
  | _ :: r => .ref i 0 (r.length + 1) (r.length + 1)
noncomputable def accNH : List Nat → List Mem
  | [] => []
  | x :: r => [.row ((x :: r).map encN) 1 true]
theorem partsF_len (wo : Int) (l : List (Nat × Nat)) (n : Nat) : (partsF wo l n).length = n := by rw [partsF, partsGo_len, List.length_replicate]
noncomputable def outN (l : List Nat) : PV := match l with
  | [] => .nils
  | x :: r => .lst ((x :: r).map encN)
theorem plainN (l : List Nat) : ∀ c ∈ l.map encN, ∀ x ∈ c, Plain x := by
  intro c hc v hv
  obtain ⟨x, _, rfl⟩ := List.mem_map.1 hc
  simp only [encN, List.mem_cons, List.not_mem_nil, or_false] at hv
  subst hv; exact plain_int _ _
theorem exp_accN (l : List Nat) (n : Nat) : exp (n + 2) (accNH l) (accN 0 l) = some (outN l) := by
  cases l with
  | nil => rfl
  | cons x r =>
    show exp (n + 1 + 1) _ _ = _
    simp only [accN, accNH, exp_ref, List.getElem?_cons_zero, rowC, Nat.zero_add, List.length_map, List.length_cons, Nat.le_refl, if_true, List.drop_zero]
    rw [List.take_of_length_le (by simp), plainss (plainN _)]; rfl
end Go.Proofs.Ytcclbkkgpcpikaa

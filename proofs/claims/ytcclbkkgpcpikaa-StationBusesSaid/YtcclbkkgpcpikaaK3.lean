import Derived.Test.YtcclbkkgpcpikaaK2
import Derived.Test.YtcclbkkgpcpikaaI5
set_option linter.unusedSimpArgs false
set_option linter.unusedVariables false
namespace Go.Proofs.Ytcclbkkgpcpikaa
open Go.Am
set_option maxRecDepth 100000
theorem rch_strs {H : List Mem} {i k z : Nat} {es : List (List PV)} {b : Bool} (hH : H[i]? = some (.row es z b)) (h : ∀ c ∈ es, ∀ v ∈ c, ∃ s, v = PV.str s) (hl : es.length = k) : rch expFuel H (.ref i 0 k k) = [i] := by
  have e : es.flatMap (fun c => c.flatMap (rch (38 + 1) H)) = [] := by
    refine List.flatMap_eq_nil_iff.2 fun c hc => List.flatMap_eq_nil_iff.2 fun v hv => ?_
    obtain ⟨s, rfl⟩ := h c hc v hv
    rfl
  rw [rch40_ref, hH, rchO_row, List.drop_zero, List.take_of_length_le (by omega), e]
end Go.Proofs.Ytcclbkkgpcpikaa

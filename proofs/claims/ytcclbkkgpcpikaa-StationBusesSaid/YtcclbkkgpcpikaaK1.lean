import Derived.Test.YtcclbkkgpcpikaaJ5
set_option linter.unusedSimpArgs false
set_option linter.unusedVariables false
namespace Go.Proofs.Ytcclbkkgpcpikaa
open Go.Am
set_option maxRecDepth 100000
theorem encS_no (x : ByteArray) : ∀ v ∈ encS x, noIds v = true := by
  intro v hv
  simp only [encS, List.mem_cons, List.not_mem_nil, or_false] at hv
  subst hv; rfl
theorem encS_plainK (x : ByteArray) : ∀ v ∈ encS x, Plain v := by
  intro v hv
  simp only [encS, List.mem_cons, List.not_mem_nil, or_false] at hv
  subst hv
  exact plain_str x
/-! the names of a way -/
/-! the names of the law -/
end Go.Proofs.Ytcclbkkgpcpikaa

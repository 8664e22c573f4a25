import Derived.Test.YtcclbkkgpcpikaaJ5
set_option linter.unusedSimpArgs false
set_option linter.unusedVariables false
namespace Go.Proofs.Ytcclbkkgpcpikaa
open Go.Am
set_option maxRecDepth 100000
/-! the islands of the buses -/
end Go.Proofs.Ytcclbkkgpcpikaa

set_option linter.unusedSimpArgs false
set_option linter.unusedVariables false
namespace Go.Proofs.Ytcclbkkgpcpikaa
open Go.Am
set_option maxRecDepth 100000
theorem Sl_rchn {q : PV} {es : List (List PV)} (hq : Sl q es) (n : Nat) (H : List Mem) : rch (n + 1) H q = [] := by
  rcases hq with ⟨rfl, _⟩ | rfl <;> rfl
end Go.Proofs.Ytcclbkkgpcpikaa

import Derived.Test.YtcclbkkgpcpikaaJ5
set_option linter.unusedSimpArgs false
set_option linter.unusedVariables false
namespace Go.Proofs.Ytcclbkkgpcpikaa
open Go.Am
set_option maxRecDepth 100000
/-! the islands of the buses -/
end Go.Proofs.Ytcclbkkgpcpikaa

set_option linter.unusedSimpArgs false
set_option linter.unusedVariables false
namespace Go.Proofs.Ytcclbkkgpcpikaa
open Go.Am
set_option maxRecDepth 100000
end Go.Proofs.Ytcclbkkgpcpikaa

set_option linter.unusedSimpArgs false
set_option linter.unusedVariables false
namespace Go.Proofs.Ytcclbkkgpcpikaa
open Go.Am
set_option maxRecDepth 100000
end Go.Proofs.Ytcclbkkgpcpikaa

set_option linter.unusedSimpArgs false
set_option linter.unusedVariables false
namespace Go.Proofs.Ytcclbkkgpcpikaa
open Go.Am
set_option maxRecDepth 100000

/-! generators at a node -/
/-! storages at a node -/
end Go.Proofs.Ytcclbkkgpcpikaa

/-
  The plain law of islands with a source.
-/
set_option linter.unusedSimpArgs false
set_option linter.unusedVariables false
namespace Go.Proofs.Ytcclbkkgpcpikaa
end Go.Proofs.Ytcclbkkgpcpikaa

import Derived.Test.YtcclbkkgpcpikaaI4
set_option linter.unusedSimpArgs false
set_option linter.unusedVariables false
namespace Go.Proofs.Ytcclbkkgpcpikaa
open Go.Am
set_option maxRecDepth 100000
/-! the shortest way -/
end Go.Proofs.Ytcclbkkgpcpikaa

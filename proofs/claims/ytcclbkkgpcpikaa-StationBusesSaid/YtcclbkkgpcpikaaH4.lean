import Derived.Test.YtcclbkkgpcpikaaH2
set_option linter.unusedSimpArgs false
set_option linter.unusedVariables false
namespace Go.Proofs.Ytcclbkkgpcpikaa
open Go.Am
set_option maxRecDepth 100000
/-! the reference's check of a graph -/
/-! equal lists -/
end Go.Proofs.Ytcclbkkgpcpikaa

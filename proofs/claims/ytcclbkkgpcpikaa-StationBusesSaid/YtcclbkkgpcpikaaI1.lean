import Derived.Test.YtcclbkkgpcpikaaH3
set_option linter.unusedSimpArgs false
set_option linter.unusedVariables false
namespace Go.Proofs.Ytcclbkkgpcpikaa
open Go.Am
set_option maxRecDepth 100000
/-! all numbers below n -/
/-! the search for the far ends -/
end Go.Proofs.Ytcclbkkgpcpikaa

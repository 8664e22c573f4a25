/-
  The plain law of ways over a part of the edges: they are the ways over the list of these edges alone, with their places.
-/
import Derived.Test.YtcclbkkgpcpikaaI5
import Derived.Test.YtcclbkkgpcpikaaJ4
import Derived.Test.YtcclbkkgpcpikaaK3
import Derived.Test.YtcclbkkgpcpikaaK1
set_option linter.unusedSimpArgs false
set_option linter.unusedVariables false
namespace Go.Proofs.Ytcclbkkgpcpikaa
end Go.Proofs.Ytcclbkkgpcpikaa

set_option linter.unusedSimpArgs false
set_option linter.unusedVariables false
namespace Go.Proofs.Ytcclbkkgpcpikaa
open Go.Am
set_option maxRecDepth 100000
end Go.Proofs.Ytcclbkkgpcpikaa

set_option linter.unusedSimpArgs false
set_option linter.unusedVariables false
namespace Go.Proofs.Ytcclbkkgpcpikaa
open Go.Am
set_option maxRecDepth 100000
end Go.Proofs.Ytcclbkkgpcpikaa

set_option linter.unusedSimpArgs false
set_option linter.unusedVariables false
namespace Go.Proofs.Ytcclbkkgpcpikaa
open Go.Am
set_option maxRecDepth 100000
/-! the switches that are open -/
/-! the law's edges between buses -/
end Go.Proofs.Ytcclbkkgpcpikaa

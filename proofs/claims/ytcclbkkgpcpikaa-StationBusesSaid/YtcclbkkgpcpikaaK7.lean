/-
  For every network and every two names the law 'StationPaths' returns true, and its arguments read afterwards as before. Conditions: none beyond the given statement's.
-/
import Derived.Test.YtcclbkkgpcpikaaK9
import Derived.Test.YtcclbkkgpcpikaaGD
import Derived.Test.YtcclbkkgpcpikaaTop
set_option linter.unusedSimpArgs false
set_option linter.unusedVariables false
namespace Go.Proofs.Ytcclbkkgpcpikaa
open Go.Am
set_option maxRecDepth 100000
theorem stationFact_call : pureCall hints L1 37 [] = some (.bool true) := by
  simp only [pureCall, prim37, factOf, Option.bind_some]; rfl
end Go.Proofs.Ytcclbkkgpcpikaa

import Derived.Test.YtlnimeapichgmaaDoorT3
import Derived.Test.YtlnimeapichgmaaDoorT12
set_option linter.constructorNameAsVariable false
set_option linter.unusedSimpArgs false
set_option linter.unusedVariables false
namespace Go.Proofs.YtlnimeapichgmaaDoor
open Go.Am Go.Tx Dv
set_option maxRecDepth 100000
end Go.Proofs.YtlnimeapichgmaaDoor

/-
  large.divWords: the loop that takes a multiple of the divisor away.
-/
set_option linter.unusedSimpArgs false
set_option linter.unusedVariables false
namespace Go.Proofs.YtlnimeapichgmaaDoor
open Go.Am Go.Tx Dv
set_option maxRecDepth 100000
end Go.Proofs.YtlnimeapichgmaaDoor

/-
  large.divWords: quotient and remainder.
-/
import Derived.Test.YtlnimeapichgmaaDoorT15
import Derived.Test.YtlnimeapichgmaaDoorT5
import Derived.Test.YtlnimeapichgmaaDoorT10
set_option linter.constructorNameAsVariable false
set_option linter.unusedSimpArgs false
set_option linter.unusedVariables false
namespace Go.Proofs.YtlnimeapichgmaaDoor
open Go.Am Go.Tx Dv
set_option maxRecDepth 100000
end Go.Proofs.YtlnimeapichgmaaDoor

/-
  large.divWords: the loop that adds the divisor back; the loop that shifts the remainder down.
-/
import Derived.Test.YtlnimeapichgmaaDoorT4
import Derived.Test.YtlnimeapichgmaaDoorT11
set_option linter.constructorNameAsVariable false
set_option linter.unusedSimpArgs false
set_option linter.unusedVariables false
namespace Go.Proofs.YtlnimeapichgmaaDoor
open Go.Am Go.Tx Dv
set_option maxRecDepth 100000
end Go.Proofs.YtlnimeapichgmaaDoor

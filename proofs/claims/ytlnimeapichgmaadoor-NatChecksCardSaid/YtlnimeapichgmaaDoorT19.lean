/-
  large.Read: the number of a text.
-/
import Derived.Test.YtlnimeapichgmaaDoorT18
set_option linter.constructorNameAsVariable false
set_option linter.unusedSimpArgs false
set_option linter.unusedVariables false
namespace Go.Proofs.YtlnimeapichgmaaDoor
open Go.Am Go.Tx Dv
set_option maxRecDepth 100000
end Go.Proofs.YtlnimeapichgmaaDoor

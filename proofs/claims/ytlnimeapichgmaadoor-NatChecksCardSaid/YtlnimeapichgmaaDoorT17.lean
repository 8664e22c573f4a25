/-
  slices.Clone; (large.Int).DivMod.
-/
import Derived.Test.YtlnimeapichgmaaDoorT16
import Derived.Test.YtlnimeapichgmaaDoorT9
set_option linter.constructorNameAsVariable false
set_option linter.unusedSimpArgs false
set_option linter.unusedVariables false
namespace Go.Proofs.YtlnimeapichgmaaDoor
open Go.Am Go.Tx Dv
set_option maxRecDepth 100000
end Go.Proofs.YtlnimeapichgmaaDoor

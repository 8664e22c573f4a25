/-
  large.Gcd; strings.HasPrefix, TrimPrefix; strconv.ParseUint and (large.Int).Text as typed calls; large.Read.
-/
import Derived.Test.YtlnimeapichgmaaDoorT17
import Derived.Test.YtlnimeapichgmaaDoorTxB
import Derived.Test.YtlnimeapichgmaaDoorDp
set_option linter.constructorNameAsVariable false
set_option linter.unusedSimpArgs false
set_option linter.unusedVariables false
namespace Go.Proofs.YtlnimeapichgmaaDoor
open Go.Am Go.Tx Dv
set_option maxRecDepth 100000
end Go.Proofs.YtlnimeapichgmaaDoor

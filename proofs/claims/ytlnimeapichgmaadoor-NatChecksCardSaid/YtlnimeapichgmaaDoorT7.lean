/-
  Integers of any size as values: Neg, Sign, Of.
-/
import Derived.Test.YtlnimeapichgmaaDoorT3
import Derived.Test.YtlnimeapichgmaaDoorW1
set_option linter.constructorNameAsVariable false
set_option linter.unusedSimpArgs false
set_option linter.unusedVariables false
namespace Go.Proofs.YtlnimeapichgmaaDoor
open Go.Am Go.Tx Dv
set_option maxRecDepth 100000
/-- An integer as a value. -/
abbrev IS (v : Int) : SV := .agg [.v .b (decide (v < 0)), u32s (wOf v.natAbs)]
end Go.Proofs.YtlnimeapichgmaaDoor

/-
  Long division by words: the plain law of one digit of the quotient.
-/
namespace Dv
section
variable {P U V U' V' v1 v2 u2 top q g rest : Int}
end
end Dv

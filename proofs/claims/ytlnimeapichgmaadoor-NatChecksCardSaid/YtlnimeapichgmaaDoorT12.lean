/-
  large.divWords: the loop that guesses a digit of the quotient.
-/
import Derived.Test.YtlnimeapichgmaaDoorT7
import Derived.Test.YtlnimeapichgmaaDoorTxB
set_option linter.constructorNameAsVariable false
set_option linter.unusedSimpArgs false
set_option linter.unusedVariables false
namespace Go.Proofs.YtlnimeapichgmaaDoor
open Go.Am Go.Tx Dv
set_option maxRecDepth 100000
theorem nf {b : Bool} (h : b = true) (h' : b = false) : False := by rw [h] at h'; cases h'
end Go.Proofs.YtlnimeapichgmaaDoor

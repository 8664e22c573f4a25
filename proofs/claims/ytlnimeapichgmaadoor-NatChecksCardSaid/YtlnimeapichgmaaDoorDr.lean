/-
  The reference's decimal arithmetic in plain Lean: digits, the least one first.
-/
import Derived.Test.YtlnimeapichgmaaDoorDn
set_option linter.constructorNameAsVariable false
set_option linter.unusedSimpArgs false
set_option linter.unusedVariables false
namespace Dv
open Go Go.Lib
/-- Digits' value, the least one first. -/
def dv : List Int → Int
  | [] => 0
  | d :: l => d + 10 * dv l
end Dv

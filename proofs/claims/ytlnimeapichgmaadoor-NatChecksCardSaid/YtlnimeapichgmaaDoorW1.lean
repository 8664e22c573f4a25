/-
  The words of a number.
-/
import Derived.Test.YtlnimeapichgmaaDoorW0
set_option linter.constructorNameAsVariable false
set_option linter.unusedSimpArgs false
set_option linter.unusedVariables false
namespace Dv
def wOf (n : Nat) : List Int := if h : n = 0 then [] else ((n % 4294967296 : Nat) : Int) :: wOf (n / 4294967296)
termination_by n
decreasing_by omega
end Dv

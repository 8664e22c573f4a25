/-
  The program logic: functions whose result is the caller's own memory.
-/
import Derived.Test.YtlnimeapichgmaaDoorTx8
set_option linter.constructorNameAsVariable false
set_option linter.unusedSimpArgs false
set_option linter.unusedVariables false
namespace Go.Tx
open Go.Am

section
variable {φ : Ph} {hp : List SM}
end
end Go.Tx

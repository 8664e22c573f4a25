/-
  Long division by words: what a round leaves.
-/
import Derived.Test.YtlnimeapichgmaaDoorW0
import Derived.Test.YtlnimeapichgmaaDoorT7
set_option linter.constructorNameAsVariable false
set_option linter.unusedSimpArgs false
set_option linter.unusedVariables false
namespace Dv
theorem Wd.take {l : List Int} (h : Wd l) (n : Nat) : Wd (l.take n) := fun x hx => h x (List.mem_of_mem_take hx)
theorem Wd.drop {l : List Int} (h : Wd l) (n : Nat) : Wd (l.drop n) := fun x hx => h x (List.mem_of_mem_drop hx)
end Dv

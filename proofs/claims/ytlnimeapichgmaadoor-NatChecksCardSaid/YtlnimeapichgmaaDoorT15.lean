/-
  large.divWords: the loop over the digits of the quotient.
-/
import Derived.Test.YtlnimeapichgmaaDoorT14
import Derived.Test.YtlnimeapichgmaaDoorD2
set_option linter.constructorNameAsVariable false
set_option linter.unusedSimpArgs false
set_option linter.unusedVariables false
namespace Go.Proofs.YtlnimeapichgmaaDoor
open Go.Am Go.Tx Dv
set_option maxRecDepth 100000
/-- What holds ahead of each digit. -/
def DInv (V : List Int) (n m : Nat) (U0 : Int) (t : Nat × List Int × List Int) : Prop :=
  t.1 ≤ m - n + 1 ∧ t.2.1.length = m + 1 ∧ Wd t.2.1 ∧ t.2.2.length = m - n + 1 ∧ Wd (t.2.2.drop t.1) ∧ wv (t.2.1.drop t.1) < wv (V.take n) ∧ U0 = wv (V.take n) * (4294967296 ^ t.1 * wv (t.2.2.drop t.1)) + wv t.2.1
end Go.Proofs.YtlnimeapichgmaaDoor

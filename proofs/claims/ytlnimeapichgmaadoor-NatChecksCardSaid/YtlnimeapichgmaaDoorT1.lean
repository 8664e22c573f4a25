import Derived.Test.YtlnimeapichgmaaDoorTx9
import Derived.Test.YtlnimeapichgmaaDoorTys
import Derived.Test.YtlnimeapichgmaaDoorHints
set_option linter.constructorNameAsVariable false
set_option linter.unusedSimpArgs false
set_option linter.unusedVariables false
namespace Go.Proofs.YtlnimeapichgmaaDoor
open Go.Am Go.Tx Dv
set_option maxRecDepth 100000
theorem wrap64 {x : Int} (h0 : -9223372036854775808 ≤ x) (h1 : x < 9223372036854775808) : IntKind.i64.wrap x = x := by
  unfold IntKind.wrap IntKind.signed IntKind.bits
  simp only [Bool.true_and]
  split <;> rename_i h <;> simp only [decide_eq_true_eq] at h <;> omega
abbrev u32s (l : List Int) : SV := .v (.l (.i .u32)) l
theorem u64_small {x : Int} (h0 : 0 ≤ x) (h1 : x < 18446744073709551616) : IntKind.u64.wrap x = x := by
  unfold IntKind.wrap IntKind.signed IntKind.bits
  simp only [Bool.false_and, Bool.false_eq_true, if_false]
  omega
theorem u32_wrap (x : Int) : IntKind.u32.wrap x = x % 4294967296 := by
  unfold IntKind.wrap IntKind.signed IntKind.bits
  simp
end Go.Proofs.YtlnimeapichgmaaDoor

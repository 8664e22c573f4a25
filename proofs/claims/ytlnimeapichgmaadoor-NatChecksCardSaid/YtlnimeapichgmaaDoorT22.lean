/-
  natFact: run by the kernel.
-/
import Derived.Test.YtlnimeapichgmaaDoorHints
import Derived.Test.YtlnimeapichgmaaDoorTx9
import Derived.Test.YtlnimeapichgmaaDoorAmC
set_option linter.constructorNameAsVariable false
set_option linter.unusedSimpArgs false
set_option linter.unusedVariables false
namespace Go.Proofs.YtlnimeapichgmaaDoor
open Go.Am Go.Tx
set_option maxRecDepth 1000000 in
theorem natFact_run : saysTrue ((evalF Tryd.prog hints 400).rn 8 [] []) = true := by decide +kernel
theorem natFact_t : PureOK Tryd.prog hints 8 [] (fun V => V = .v .b true) := by
  refine ⟨fun qs hr => ?_⟩
  simp only [RL] at hr
  subst hr
  have h := natFact_run
  cases hx : (evalF Tryd.prog hints 400).rn 8 [] [] with
  | none => rw [hx] at h; cases h
  | some x =>
    obtain ⟨v, H⟩ := x
    rw [hx] at h
    have hv : v = .bool true := by
      cases v <;> first | (cases h; done) | skip
      rename_i b
      cases b <;> first | rfl | cases h
    subst hv
    have hl := lim_of hx
    refine ⟨.bool true, .v .b true, ?_, by simp only [RV, RR], rfl⟩
    show ((lim Tryd.prog hints).rn 8 [] []).bind _ = _
    rw [hl]
    rfl
end Go.Proofs.YtlnimeapichgmaaDoor

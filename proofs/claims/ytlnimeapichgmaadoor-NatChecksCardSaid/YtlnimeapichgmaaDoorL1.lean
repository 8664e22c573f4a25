/-
  The laws' own helpers; NatChecks.
-/
import Derived.Test.YtlnimeapichgmaaDoorR1
import Derived.Test.YtlnimeapichgmaaDoorT22
set_option linter.constructorNameAsVariable false
set_option linter.unusedSimpArgs false
set_option linter.unusedVariables false
namespace Go.Proofs.YtlnimeapichgmaaDoor
open Go.Am Go.Tx Dv Go.Lib
set_option maxRecDepth 100000
set_option maxHeartbeats 4000000 in
theorem NatChecks_l (s : List UInt8) (hl : s.length ≤ 9223372036854775806) : PureOK Tryd.prog hints 3 [.v .s s] (fun V => V = .v .b true) := by
  refine pure_rule (fn := Tryd.f3) (code := bodyOf Tryd.f3) tys_ok (by kernel_rfl) rfl Tryd.func3 (by kernel_rfl) (Nat.le_of_ble_eq_true (by kernel_rfl)) ?_
  refine wpg_seq (wpg_region rfl ?_)
  refine wpg_v rfl (fun _ => rfl) rfl rfl ?_
  refine wpg_nil ?_
  refine wpg_seq (wpg_region rfl ?_)
  refine wpg_op rfl (natFact_t.mono ?_)
  rintro _ rfl
  refine wpg_put rfl rfl ?_
  refine wpg_v rfl (fun _ => rfl) rfl rfl ?_
  refine wpg_vg rfl rfl rfl rfl (fun _ => rfl) rfl rfl ?_
  refine wpg_run rfl rfl rfl rfl ((Check_t s hl).mono ?_)
  rintro _ rfl
  refine wpg_put rfl rfl ?_
  refine wpg_vg rfl rfl rfl rfl (fun _ => rfl) rfl rfl ?_
  refine wpg_run rfl rfl rfl rfl ((NatError_t s hl).mono ?_)
  rintro _ rfl
  refine wpg_put rfl rfl ?_
  refine wpg_vg rfl rfl rfl rfl (fun _ => rfl) rfl rfl ?_
  refine wpg_pt rfl rfl rfl rfl rfl rfl rfl ?_
  refine wpg_v rfl (fun _ => rfl) rfl rfl ?_
  refine wpg_nil ?_
  show SV.v .b (decide (natErr s = natErr s)) = _
  rw [decide_eq_true rfl]
end Go.Proofs.YtlnimeapichgmaaDoor

/-
  natFact: run by the kernel.
-/
import Derived.Test.YtlnimeapichgmaaDoorW0
import Derived.Test.YtlnimeapichgmaaDoorTx9
import Derived.Test.YtlnimeapichgmaaDoorAmC
import Derived.Test.YtlnimeapichgmaaDoorR1
set_option linter.constructorNameAsVariable false
set_option linter.unusedSimpArgs false
set_option linter.unusedVariables false
namespace Go.Proofs.YtlnimeapichgmaaDoor
open Go.Am Go.Tx
set_option maxRecDepth 1000000 in
theorem natFact_run : saysTrue ((evalF Tryd.prog hints 400).rn 8 [] []) = true := by decide +kernel
theorem natFact_t : PureOK Tryd.prog hints 8 [] (fun V => V = .v .b true) := by
  refine ⟨fun qs hr => ?_⟩
  simp only [RL] at hr
  subst hr
  have h := natFact_run
  cases hx : (evalF Tryd.prog hints 400).rn 8 [] [] with
  | none => rw [hx] at h; cases h
  | some x =>
    obtain ⟨v, H⟩ := x
    rw [hx] at h
    have hv : v = .bool true := by
      cases v <;> first | (cases h; done) | skip
      rename_i b
      cases b <;> first | rfl | cases h
    subst hv
    have hl := lim_of hx
    refine ⟨.bool true, .v .b true, ?_, by simp only [RV, RR], rfl⟩
    show ((lim Tryd.prog hints).rn 8 [] []).bind _ = _
    rw [hl]
    rfl
end Go.Proofs.YtlnimeapichgmaaDoor

/-
  The laws' own helpers; NatChecks.
-/
set_option linter.unusedSimpArgs false
set_option linter.unusedVariables false
namespace Go.Proofs.YtlnimeapichgmaaDoor
open Go.Am Go.Tx Dv Go.Lib
set_option maxRecDepth 100000
def fstE : List Int → Int
  | [] => 0
  | x :: r => match decide (x = 0) with
    | true => fstE r
    | false => x
set_option maxHeartbeats 4000000 in
theorem first_t (l : List Int) (hl : l.length ≤ 1000000) : PureOK Tryd.prog hints 13 [.v (.l (.i .i64)) l] (fun V => V = .v (.i .i64) (fstE l)) := by
  refine pure_rule (fn := Tryd.f13) (code := bodyOf Tryd.f13) tys_ok (by kernel_rfl) rfl Tryd.func13 (by kernel_rfl) (Nat.le_of_ble_eq_true (by kernel_rfl)) ?_
  refine loop_wp tys_ok rfl (fun (i : Nat) => [(0, .v (.l (.i .i64)) l), (5, .v (.l (.i .i64)) l), (6, .v (.i .i64) (l.length : Int)), (7, .v (.i .i64) (i : Int))]) (fun _ => [])
    (fun i => i ≤ l.length ∧ fstE (l.drop i) = fstE l) (fun i => l.length - i) ?_ 0 ?_ ?_
  · rintro i ⟨hi, he⟩
    refine And.intro (fun h => ?_) (fun h => ?_)
    · have hlt : i < l.length := by have h' : (i : Int) < (l.length : Int) := of_decide_eq_true h; omega
      obtain ⟨x, hx⟩ : ∃ x, l[i] = x := ⟨_, rfl⟩
      have gx : l[(i : Int).toNat]? = some x := by rw [Int.toNat_natCast, List.getElem?_eq_getElem hlt, hx]
      rw [List.drop_eq_getElem_cons hlt, hx, fstE] at he
      refine ⟨x, Int.natCast_nonneg i, gx, ?_⟩
      refine And.intro (fun h2 => ?_) (fun h2 => ?_)
      · have h2' : (!decide (x = 0)) = true := h2
        have hd : decide (x = 0) = false := by cases hd : decide (x = 0) <;> simp [hd] at h2' ⊢
        rw [hd] at he
        exact congrArg (SV.v (.i .i64)) he
      · have h2' : (!decide (x = 0)) = false := h2
        have hd : decide (x = 0) = true := by cases hd : decide (x = 0) <;> simp [hd] at h2' ⊢
        rw [hd] at he
        have wi : IntKind.i64.wrap ((i : Int) + 1) = ((i + 1 : Nat) : Int) := wrap64 (by omega) (by omega)
        refine ⟨i + 1, ⟨hlt, he⟩, by show l.length - (i + 1) < l.length - i; omega, ?_⟩
        refine ent_of rfl rfl ?_ ?_
        · exact ⟨rfl, rfl, rfl, wi.symm, trivial⟩
        · exact trivial
    · have hi2 : i = l.length := by have h' : ¬ (i : Int) < (l.length : Int) := of_decide_eq_false h; omega
      rw [List.drop_of_length_le (by omega)] at he
      exact congrArg (SV.v (.i .i64)) he
  · exact ⟨Nat.zero_le _, rfl⟩
  · refine ent_of rfl rfl ?_ ?_
    · exact ⟨rfl, rfl, rfl, rfl, trivial⟩
    · exact trivial
def natL (s : List UInt8) : List UInt8 × Int := match decide ((2000 : Int) < (s.length : Int)) with
  | true => ([], 2)
  | false => (s, 0)
theorem natural_t (s : List UInt8) : PureOK Tryd.prog hints 14 [.v .s s] (fun V => V = .tup [.v .s (natL s).1, .v (.i .i64) (natL s).2]) := by
  refine pure_rule (fn := Tryd.f14) (code := bodyOf Tryd.f14) tys_ok (by kernel_rfl) rfl Tryd.func14 (by kernel_rfl) (Nat.le_of_ble_eq_true (by kernel_rfl)) ?_
  refine And.intro (fun h => ?_) (fun h => ?_)
  · have h' : decide ((2000 : Int) < (s.length : Int)) = true := h
    simp only [natL, h']
    rfl
  · have h' : decide ((2000 : Int) < (s.length : Int)) = false := h
    simp only [natL, h']
    rfl
set_option maxHeartbeats 4000000 in
theorem NatChecks_l (s : List UInt8) (hl : s.length ≤ 9223372036854775806) : PureOK Tryd.prog hints 3 [.v .s s] (fun V => V = .v .b true) := by
  refine pure_rule (fn := Tryd.f3) (code := bodyOf Tryd.f3) tys_ok (by kernel_rfl) rfl Tryd.func3 (by kernel_rfl) (Nat.le_of_ble_eq_true (by kernel_rfl)) ?_
  refine wpg_seq (wpg_region rfl ?_)
  refine wpg_v rfl (fun _ => rfl) rfl rfl ?_
  refine wpg_nil ?_
  refine wpg_seq (wpg_region rfl ?_)
  refine wpg_op rfl (natFact_t.mono ?_)
  rintro _ rfl
  refine wpg_put rfl rfl ?_
  refine wpg_v rfl (fun _ => rfl) rfl rfl ?_
  refine wpg_vg rfl rfl rfl rfl (fun _ => rfl) rfl rfl ?_
  refine wpg_run rfl rfl rfl rfl ((Check_t s hl).mono ?_)
  rintro _ rfl
  refine wpg_put rfl rfl ?_
  refine wpg_vg rfl rfl rfl rfl (fun _ => rfl) rfl rfl ?_
  refine wpg_run rfl rfl rfl rfl ((NatError_t s hl).mono ?_)
  rintro _ rfl
  refine wpg_put rfl rfl ?_
  refine wpg_vg rfl rfl rfl rfl (fun _ => rfl) rfl rfl ?_
  refine wpg_pt rfl rfl rfl rfl rfl rfl rfl ?_
  refine wpg_v rfl (fun _ => rfl) rfl rfl ?_
  refine wpg_nil ?_
  show SV.v .b (decide (natErr s = natErr s)) = _
  rw [decide_eq_true rfl]
end Go.Proofs.YtlnimeapichgmaaDoor

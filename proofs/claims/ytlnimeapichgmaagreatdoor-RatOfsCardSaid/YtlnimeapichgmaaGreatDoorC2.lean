/-
  For every two whole numbers the law 'RatOfs' returns true, and its arguments read afterwards as before. Conditions: none beyond the given statement's.
-/
import Derived.Test.YtlnimeapichgmaaGreatDoorQE
import Derived.Test.YtlnimeapichgmaaGreatDoorP6
import Derived.Test.YtlnimeapichgmaaGreatDoorCards
import Derived.Test.YtlnimeapichgmaaGreatDoorTie
set_option linter.constructorNameAsVariable false
set_option linter.unusedSimpArgs false
set_option linter.unusedVariables false
namespace Go.Proofs.YtlnimeapichgmaaGreatDoor
open Go.Am Go.Tx
set_option maxRecDepth 100000
theorem tys_law : omap (tyOf Tryz.prog 20) Tryz.f4.params.toList = some [.int .i64, .int .i64] := by kernel_rfl
theorem law_eval (qs : List PV) (h : HasArgs [.int .i64, .int .i64] qs) : ∃ n H', (evalF Tryz.prog hints n).rn 4 qs [] = some (.bool true, H') := by
  simp only [HasArgs] at h
  obtain ⟨p, _, rfl, h1, q, _, rfl, h2, rfl⟩ := h
  obtain ⟨a, ha, hla⟩ := arg_int h1
  obtain ⟨hla0, hla1⟩ := int_range hla
  obtain ⟨b, hb, hlb⟩ := arg_int h2
  obtain ⟨hlb0, hlb1⟩ := int_range hlb
  exact law_true rfl (RatOfs_l a b hla0 hla1 hlb0 hlb1) (by simp only [RL]; exact ⟨p, [q], rfl, ha, q, [], rfl, hb, rfl⟩)
open Go.ChangeShapes Go.WideShapes Go.ChangeAt Go.RowKit
theorem law_lifted (os : Os) (started : os.Started) (H : Type) (enc : TypeId × Value → H) :
    ReturnsInHanded {} Tryz.checked os 4 .any (fun w args => (Rows.ratOfsSpec.pre enc Tryz.prog Tryz.f4 [] false w args ∧ laidMetH Tryz.prog rowsLaid w) ∧ sizedMet enc Tryz.prog Tryz.f4 (OpenSpec.ofChange Rows.ratOfsSpec) false w args) (Rows.ratOfsSpec.post enc Tryz.prog Tryz.f4 false true false false) := by
  refine returnsInHanded_of_change_and (C := Tryz.checked) (X := fun w _ => laidMetH Tryz.prog rowsLaid w) (fun _ _ _ hh h => h.of_heap hh) own0 started (by kernel_rfl) Tryz.func4
    (ChangeSpec.witness_shaped (enc := enc) (C := Tryz.checked) (os := os) (X := fun w _ => laidMetH Tryz.prog rowsLaid w) false (World.laidAll Tryz.prog os rowsLaid) #[.int .i64 0, .int .i64 0] 8 (World.laidAll_os _ _ _)
      (World.shaped_of_ZipB (by kernel_rfl) (by kernel_rfl)) (by kernel_rfl) (by kernel_rfl) (by kernel_rfl)
      (by rw [MakeChecks.laidMetH_plain _ _ _ (by kernel_rfl)]; exact laidMet_laidAll _ (by kernel_rfl) (by kernel_rfl))) ?_
  intro W base args ds gs before hval hW _ hsz hL _
  exact law_contract (fn := Tryz.f4) (s := Rows.ratOfsSpec) (tb := 4) staticH primsB laidOut0 rfl (by kernel_rfl) Tryz.underlying4 (of_decide_eq_true (by kernel_rfl)) tys_law law_eval (by
    intro ds hds
    have h3 : Tryz.f4.params.size = 2 := by kernel_rfl
    rw [h3] at hds
    match ds, hds with
    | [_, _], _ => rfl) (pow_ok hL) hval hW hsz
theorem ratOfs_row : Rows.RatOfsSaid :=
  OpenClaim.holds_of_wide 4 Tryz.f4 rfl rfl rfl rfl rfl rfl rfl ⟨rfl, rfl, rfl, rfl, rfl⟩ rfl rfl rfl rfl rfl (by kernel_rfl) Tryz.func4 (by kernel_rfl)
    (of_decide_eq_true (by kernel_rfl)) (by unfold Func.isWrapper; first | (rw [if_pos (by decide +kernel)]; kernel_rfl) | (rw [if_neg (by decide +kernel)]; exact ⟨rfl, rfl⟩))
    (fun os started H enc _ => law_lifted os started H enc)
theorem ratOfs_holds : Rows.RatOfsCardSaid :=
  Claim7.holds_tied_plain_at .later [] [.data, .data, .data, .sentinel, .sentinel] true (true, "3ecd0cc7c2267a3f1a701865f50489c6c8f170f522cf1c9526999d6eac5ecdeb") true
    ratOfs_row (fun _ h => by cases h) (by kernel_rfl) (fun _ h => by cases h) ratOfs_row_tie rfl ⟨rfl, rfl⟩ (by kernel_rfl) rfl
    (fun f fn hf hfn => by
      obtain rfl : f = 4 := Option.some.inj ((show Tryz.prog.funcNamed "gridhall/gridhalllaw1.RatOfs" = some 4 by kernel_rfl).symm.trans hf) |>.symm
      obtain rfl : fn = Tryz.f4 := (Option.some.inj (Tryz.func4.symm.trans hfn)).symm
      exact ⟨by kernel_rfl, fun j t ht => by
        have hm : t ∈ Tryz.f4.params.toList := by
          have := Array.mem_of_getElem? ht
          simpa using this
        have hall : (Tryz.f4.params.toList.all fun u => !Tryz.prog.wantsStandIn u) = true := by kernel_rfl
        exact (show Tryz.prog.wantsStandIn t = false by simpa using List.all_eq_true.1 hall t hm)⟩)
    (by kernel_rfl)
end Go.Proofs.YtlnimeapichgmaaGreatDoor

/-
  For all inputs the law 'LossChecks' returns true, and its arguments read afterwards as before. Conditions: none beyond the given statement's.
-/
import Derived.Test.YtnfgnkbgajhhbaaGreatDoorML
import Derived.Test.YtnfgnkbgajhhbaaGreatDoorP6
import Derived.Test.YtnfgnkbgajhhbaaGreatDoorCards
import Derived.Test.YtnfgnkbgajhhbaaGreatDoorTie
set_option linter.constructorNameAsVariable false
set_option linter.unusedSimpArgs false
set_option linter.unusedVariables false
namespace Go.Proofs.YtnfgnkbgajhhbaaGreatDoor
open Go.Am Go.Tx
set_option maxRecDepth 100000
theorem tys_law : omap (tyOf Tryz.prog 20) Tryz.f8.params.toList = some [.str, .slice .str 16, .str] := by kernel_rfl
theorem law_eval (qs : List PV) (h : HasArgs [.str, .slice .str 16, .str] qs) : ∃ n H', (evalF Tryz.prog hints n).rn 8 qs [] = some (.bool true, H') := by
  simp only [HasArgs] at h
  obtain ⟨p, _, rfl, h1, q, _, rfl, h2, r, _, rfl, h3, rfl⟩ := h
  obtain ⟨a, ha, hla⟩ := arg_str h1
  obtain ⟨b, hb, hlb⟩ := arg_list h2
  obtain ⟨c, hc, hlc⟩ := arg_str h3
  exact law_true rfl (LossChecks_l a b c hla hlb hlc) (by simp only [RL]; exact ⟨p, [q, r], rfl, ha, q, [r], rfl, hb, r, [], rfl, hc, rfl⟩)
open Go.ChangeShapes Go.WideShapes Go.ChangeAt Go.RowKit
theorem law_lifted (os : Os) (started : os.Started) (H : Type) (enc : TypeId × Value → H) :
    ReturnsInHanded {} Tryz.checked os 8 .any (fun w args => (Rows.lossChecksSpec.pre enc Tryz.prog Tryz.f8 [] false w args ∧ laidMetH Tryz.prog rowsLaid w) ∧ sizedMet enc Tryz.prog Tryz.f8 (OpenSpec.ofChange Rows.lossChecksSpec) false w args) (Rows.lossChecksSpec.post enc Tryz.prog Tryz.f8 false true false false) := by
  refine returnsInHanded_of_change_and (C := Tryz.checked) (X := fun w _ => laidMetH Tryz.prog rowsLaid w) (fun _ _ _ hh h => h.of_heap hh) own0 started (by kernel_rfl) Tryz.func8
    (ChangeSpec.witness_shaped (enc := enc) (C := Tryz.checked) (os := os) (X := fun w _ => laidMetH Tryz.prog rowsLaid w) false (World.laidAll Tryz.prog os rowsLaid) #[.string ⟨#[]⟩, .slice none 0 0, .string ⟨#[]⟩] 8 (World.laidAll_os _ _ _)
      (World.shaped_of_ZipB (by kernel_rfl) (by kernel_rfl)) (by kernel_rfl) (by kernel_rfl) (by kernel_rfl)
      (by rw [MakeChecks.laidMetH_plain _ _ _ (by kernel_rfl)]; exact laidMet_laidAll _ (by kernel_rfl) (by kernel_rfl))) ?_
  intro W base args ds gs before hval hW _ hsz hL _
  exact law_contract (fn := Tryz.f8) (s := Rows.lossChecksSpec) (tb := 4) staticH primsB laidOut0 rfl (by kernel_rfl) Tryz.underlying4 (of_decide_eq_true (by kernel_rfl)) tys_law law_eval (by
    intro ds hds
    have h3 : Tryz.f8.params.size = 3 := by kernel_rfl
    rw [h3] at hds
    match ds, hds with
    | [_, _, _], _ => rfl) (pow_ok hL) hval hW hsz
theorem lossChecks_row : Rows.LossChecksSaid :=
  OpenClaim.holds_of_wide 8 Tryz.f8 rfl rfl rfl rfl rfl rfl rfl ⟨rfl, rfl, rfl, rfl, rfl⟩ rfl rfl rfl rfl rfl (by kernel_rfl) Tryz.func8 (by kernel_rfl)
    (of_decide_eq_true (by kernel_rfl)) (by unfold Func.isWrapper; first | (rw [if_pos (by decide +kernel)]; kernel_rfl) | (rw [if_neg (by decide +kernel)]; exact ⟨rfl, rfl⟩))
    (fun os started H enc _ => law_lifted os started H enc)
theorem lossChecks_holds : Rows.LossChecksCardSaid :=
  Claim7.holds_tied_plain_at .later [] [.data, .data, .data, .sentinel, .sentinel] true (true, "fd1630f34eac5a5826cace0bc622f304d78710aab7dcf71eb32c2fe6a197f7e1") true
    lossChecks_row (fun _ h => by cases h) (by kernel_rfl) (fun _ h => by cases h) lossChecks_row_tie rfl ⟨rfl, rfl⟩ (by kernel_rfl) rfl
    (fun f fn hf hfn => by
      obtain rfl : f = 8 := Option.some.inj ((show Tryz.prog.funcNamed "gridhall/gridhalllaw1.LossChecks" = some 8 by kernel_rfl).symm.trans hf) |>.symm
      obtain rfl : fn = Tryz.f8 := (Option.some.inj (Tryz.func8.symm.trans hfn)).symm
      exact ⟨by kernel_rfl, fun j t ht => by
        have hm : t ∈ Tryz.f8.params.toList := by
          have := Array.mem_of_getElem? ht
          simpa using this
        have hall : (Tryz.f8.params.toList.all fun u => !Tryz.prog.wantsStandIn u) = true := by kernel_rfl
        exact (show Tryz.prog.wantsStandIn t = false by simpa using List.all_eq_true.1 hall t hm)⟩)
    (by kernel_rfl)
end Go.Proofs.YtnfgnkbgajhhbaaGreatDoor
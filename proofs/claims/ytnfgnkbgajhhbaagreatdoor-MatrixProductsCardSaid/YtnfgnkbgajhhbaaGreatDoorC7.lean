/-
 For all inputs the law 'MatrixProducts' returns true, and its arguments read afterwards as before. Conditions: none beyond the given statement's.
-/
import Derived.Test.YtnfgnkbgajhhbaaGreatDoorMT
import Derived.Test.YtnfgnkbgajhhbaaGreatDoorTop
import Derived.Test.YtnfgnkbgajhhbaaGreatDoorCards
import Derived.Test.YtnfgnkbgajhhbaaGreatDoorTie
set_option linter.constructorNameAsVariable false
set_option linter.unusedSimpArgs false
set_option linter.unusedVariables false
namespace Go.Proofs.YtnfgnkbgajhhbaaGreatDoor
open Go.Am Go.Tx
set_option maxRecDepth 100000
theorem Zvq : ZaO (ZkT Tryz.prog 20) Tryz.f4.params.toList = some [.slice (.slice .str 16) 24, .slice (.slice .str 16) 24, .slice .str 16] := by kernel_rfl
theorem ZsB (qs : List PV) (h : ZeV [.slice (.slice .str 16) 24, .slice (.slice .str 16) 24, .slice .str 16] qs) : ∃ n H', (Zec Tryz.prog Zat n).rn 4 qs [] = some (.bool true, H') := by
 simp only [ZeV] at h
 obtain ⟨p, _, rfl, h1, q, _, rfl, h2, r, _, rfl, h3, rfl⟩ := h
 obtain ⟨a, ha, hla⟩ := ZqE h1
 obtain ⟨b, hb, hlb⟩ := ZqE h2
 obtain ⟨c, hc, hlc⟩ := Ztf h3
 exact Ztv rfl (Zg0 a b c hla hlb hlc) (by simp only [RL]; exact ⟨p, [q, r], rfl, ha, q, [r], rfl, hb, r, [], rfl, hc, rfl⟩)
open Go.ChangeShapes Go.WideShapes Go.ChangeAt Go.RowKit
theorem ZoZ (os : Os) (started : os.Started) (H : Type) (enc : TypeId × Value → H) :
 ReturnsInHanded {} Tryz.checked os 4 .any (fun w args => (Rows.matrixProductsSpec.pre enc Tryz.prog Tryz.f4 [] false w args ∧ laidMetH Tryz.prog Zes w) ∧ sizedMet enc Tryz.prog Tryz.f4 (OpenSpec.ofChange Rows.matrixProductsSpec) false w args) (Rows.matrixProductsSpec.post enc Tryz.prog Tryz.f4 false true false false) := by
 refine returnsInHanded_of_change_and (C := Tryz.checked) (X := fun w _ => laidMetH Tryz.prog Zes w) (fun _ _ _ hh h => h.of_heap hh) Zyi started (by kernel_rfl) Tryz.func4
  (ChangeSpec.witness_shaped (enc := enc) (C := Tryz.checked) (os := os) (X := fun w _ => laidMetH Tryz.prog Zes w) false (World.laidAll Tryz.prog os Zes) #[.slice none 0 0, .slice none 0 0, .slice none 0 0] 8 (World.laidAll_os _ _ _)
   (World.shaped_of_ZipB (by kernel_rfl) (by kernel_rfl)) (by kernel_rfl) (by kernel_rfl) (by kernel_rfl)
   (by rw [MakeChecks.laidMetH_plain _ _ _ (by kernel_rfl)]; exact laidMet_laidAll _ (by kernel_rfl) (by kernel_rfl))) ?_
 intro W base args ds gs before hval hW _ hsz hL _
 exact Zlw (fn := Tryz.f4) (s := Rows.matrixProductsSpec) (tb := 4) Zvr Zwl ZtZ rfl (by kernel_rfl) Tryz.underlying4 (of_decide_eq_true (by kernel_rfl)) Zvq ZsB (by
  intro ds hds
  have h3 : Tryz.f4.params.size = 3 := by kernel_rfl
  rw [h3] at hds
  match ds, hds with
  | [_, _, _], _ => rfl) (Zw6 hL) hval hW hsz
theorem Zfw : Rows.MatrixProductsSaid :=
 OpenClaim.holds_of_wide 4 Tryz.f4 rfl rfl rfl rfl rfl rfl rfl ⟨rfl, rfl, rfl, rfl, rfl⟩ rfl rfl rfl rfl rfl (by kernel_rfl) Tryz.func4 (by kernel_rfl)
  (of_decide_eq_true (by kernel_rfl)) (by unfold Func.isWrapper; first | (rw [if_pos (by decide +kernel)]; kernel_rfl) | (rw [if_neg (by decide +kernel)]; exact ⟨rfl, rfl⟩))
  (fun os started H enc _ => ZoZ os started H enc)
theorem matrixProducts_holds : Rows.MatrixProductsCardSaid :=
 Claim7.holds_tied_plain_at .later [] [.data, .data, .data, .sentinel, .sentinel] true (true, "fd1630f34eac5a5826cace0bc622f304d78710aab7dcf71eb32c2fe6a197f7e1") true
  Zfw (fun _ h => by cases h) (by kernel_rfl) (fun _ h => by cases h) matrixProducts_row_tie rfl ⟨rfl, rfl⟩ (by kernel_rfl) rfl
  (fun f fn hf hfn => by
   obtain rfl : f = 4 := Option.some.inj ((show Tryz.prog.funcNamed "gridhall/gridhalllaw1.MatrixProducts" = some 4 by kernel_rfl).symm.trans hf) |>.symm
   obtain rfl : fn = Tryz.f4 := (Option.some.inj (Tryz.func4.symm.trans hfn)).symm
   exact ⟨by kernel_rfl, fun j t ht => by
    have hm : t ∈ Tryz.f4.params.toList := by
     have := Array.mem_of_getElem? ht
     simpa using this
    have hall : (Tryz.f4.params.toList.all fun u => !Tryz.prog.wantsStandIn u) = true := by kernel_rfl
    exact (show Tryz.prog.wantsStandIn t = false by simpa using List.all_eq_true.1 hall t hm)⟩)
  (by kernel_rfl)
end Go.Proofs.YtnfgnkbgajhhbaaGreatDoor

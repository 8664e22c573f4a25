/-
  DERIVED. GIVEN WITH THE SEED: THE CARDS: each row of YtapbiodcncnnfaaGreatDoorRows.lean that lists a variable, with what it lists TIED to the program's text (the seventh form; the later family's looks); each row that meets fmt, with fmt's text TOLD by the authors' own Lean function (tested against real Go, not proved from fmt's source: count such statements apart). THE CARD IS WHAT COUNTS. Prove the row's statement (the work); the ties are given (YtapbiodcncnnfaaGreatDoorTie.lean); close each card by the builder's one call (the guide's Derived/Test/ToyasCard.lean, 'card_holds'). Laid BY PROGRAM, IN A SANDBOX (cutbox-door.mjs). By AI agents, Wed Nov 11 2026. No macro, syntax, notation, axiom, sorry.
-/
import Derived.Test.YtapbiodcncnnfaaGreatDoorRows
import GoSem.ClaimSeven
namespace Go.Proofs.YtapbiodcncnnfaaGreatDoor
namespace Rows

/-- THE TIED CARD OF 'gridhalllaw1.RatingSteps'. -/
def ratingStepsCard : Claim7 := { stood := { row := ratingStepsRow, standIns := [], harness := (true, "2f4cf7722a613ce33678ab690026a8a0f91ba474dea485e5fc71ff3f0f8ca80a"), looks := true }, kinds := [], alts := [], laidByText := true, laidKinds := [.data, .data, .data, .sentinel, .sentinel], laidTests := true, laidLooks := .later }
def RatingStepsCardSaid : Prop := Claim7.holds Tryz.pinned (.plain (OpenSpec.ofChange ratingStepsSpec)) ratingStepsCard

/-- THE SECOND FORM's CARD OF 'gridhalllaw1.RatingSteps'. -/
def ratingStepsUptoCard : Claim7 := { stood := { row := ratingStepsUptoRow, standIns := [], harness := (true, "2f4cf7722a613ce33678ab690026a8a0f91ba474dea485e5fc71ff3f0f8ca80a"), looks := true }, kinds := [], alts := [], laidByText := true, laidKinds := [.data, .data, .data, .sentinel, .sentinel], laidTests := true, laidLooks := .later }
def RatingStepsUptoCardSaid : Prop := Claim7.holds Tryz.pinned (.plain (OpenSpec.upto ratingStepsSpec)) ratingStepsUptoCard
end Rows
end Go.Proofs.YtapbiodcncnnfaaGreatDoor

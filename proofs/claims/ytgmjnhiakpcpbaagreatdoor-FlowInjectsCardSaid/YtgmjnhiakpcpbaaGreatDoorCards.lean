/-
  DERIVED. GIVEN WITH THE SEED: THE CARDS: each row of YtgmjnhiakpcpbaaGreatDoorRows.lean that lists a variable, with what it lists TIED to the program's text (the seventh form; the later family's looks); each row that meets fmt, with fmt's text TOLD by the authors' own Lean function (tested against real Go, not proved from fmt's source: count such statements apart). THE CARD IS WHAT COUNTS. Prove the row's statement (the work); the ties are given (YtgmjnhiakpcpbaaGreatDoorTie.lean); close each card by the builder's one call (the guide's Derived/Test/ToyasCard.lean, 'card_holds'). Laid BY PROGRAM, IN A SANDBOX (cutbox-door.mjs). By AI agents, Wed Nov 11 2026. No macro, syntax, notation, axiom, sorry.
-/
import Derived.Test.YtgmjnhiakpcpbaaGreatDoorRows
import GoSem.ClaimSeven
namespace Go.Proofs.YtgmjnhiakpcpbaaGreatDoor
namespace Rows

/-- THE TIED CARD OF 'gridhalllaw1.RatingSteps'. -/
def ratingStepsCard : Claim7 := { stood := { row := ratingStepsRow, standIns := [], harness := (true, "5640bb79e36315cb53a7e8142122be38bf1f9adbac88c27945f36fd28f506b66"), looks := true }, kinds := [], alts := [], laidByText := true, laidKinds := [.data, .data, .data, .sentinel, .sentinel], laidTests := true, laidLooks := .later }
def RatingStepsCardSaid : Prop := Claim7.holds Tryz.pinned (.plain (OpenSpec.ofChange ratingStepsSpec)) ratingStepsCard

/-- THE TIED CARD OF 'gridhalllaw1.FlowInjects'. -/
def flowInjectsCard : Claim7 := { stood := { row := flowInjectsRow, standIns := [], harness := (true, "5640bb79e36315cb53a7e8142122be38bf1f9adbac88c27945f36fd28f506b66"), looks := true }, kinds := [], alts := [], laidByText := true, laidKinds := [.data, .data, .data, .sentinel, .sentinel], laidTests := true, laidLooks := .later }
def FlowInjectsCardSaid : Prop := Claim7.holds Tryz.pinned (.plain (OpenSpec.ofChange flowInjectsSpec)) flowInjectsCard

/-- THE SECOND FORM's CARD OF 'gridhalllaw1.RatingSteps'. -/
def ratingStepsUptoCard : Claim7 := { stood := { row := ratingStepsUptoRow, standIns := [], harness := (true, "5640bb79e36315cb53a7e8142122be38bf1f9adbac88c27945f36fd28f506b66"), looks := true }, kinds := [], alts := [], laidByText := true, laidKinds := [.data, .data, .data, .sentinel, .sentinel], laidTests := true, laidLooks := .later }
def RatingStepsUptoCardSaid : Prop := Claim7.holds Tryz.pinned (.plain (OpenSpec.upto ratingStepsSpec)) ratingStepsUptoCard

/-- THE SECOND FORM's CARD OF 'gridhalllaw1.FlowInjects'. -/
def flowInjectsUptoCard : Claim7 := { stood := { row := flowInjectsUptoRow, standIns := [], harness := (true, "5640bb79e36315cb53a7e8142122be38bf1f9adbac88c27945f36fd28f506b66"), looks := true }, kinds := [], alts := [], laidByText := true, laidKinds := [.data, .data, .data, .sentinel, .sentinel], laidTests := true, laidLooks := .later }
def FlowInjectsUptoCardSaid : Prop := Claim7.holds Tryz.pinned (.plain (OpenSpec.upto flowInjectsSpec)) flowInjectsUptoCard
end Rows
end Go.Proofs.YtgmjnhiakpcpbaaGreatDoor

/-
  DERIVED. GIVEN WITH THE SEED: THE CARDS: each row of YtkhpbclcfldhmaaGreatDoorRows.lean that lists a variable, with what it lists TIED to the program's text (the seventh form; the later family's looks); each row that meets fmt, with fmt's text TOLD by the authors' own Lean function (tested against real Go, not proved from fmt's source: count such statements apart). THE CARD IS WHAT COUNTS. Prove the row's statement (the work); the ties are given (YtkhpbclcfldhmaaGreatDoorTie.lean); close each card by the builder's one call (the guide's Derived/Test/ToyasCard.lean, 'card_holds'). Laid BY PROGRAM, IN A SANDBOX (cutbox-door.mjs). By AI agents, Wed Nov 11 2026. No macro, syntax, notation, axiom, sorry.
-/
import Derived.Test.YtkhpbclcfldhmaaGreatDoorRows
import GoSem.ClaimSeven
namespace Go.Proofs.YtkhpbclcfldhmaaGreatDoor
namespace Rows

/-- THE TIED CARD OF 'gridhalltop.TopEnergy'. -/
def topEnergyCard : Claim7 := { stood := { row := topEnergyRow, standIns := [], harness := (true, "6b9ce2e413ece76b0bb4eb3e8403c3922be4f84b4d0d367e67479fb35856dbb0"), looks := true }, kinds := [], alts := [], laidByText := true, laidKinds := [.data, .data, .data, .sentinel, .sentinel], laidTests := true, laidLooks := .later }
def TopEnergyCardSaid : Prop := Claim7.holds Tryz.pinned (.plain (OpenSpec.ofChange topEnergySpec)) topEnergyCard

/-- THE SECOND FORM's CARD OF 'gridhalltop.TopEnergy'. -/
def topEnergyUptoCard : Claim7 := { stood := { row := topEnergyUptoRow, standIns := [], harness := (true, "6b9ce2e413ece76b0bb4eb3e8403c3922be4f84b4d0d367e67479fb35856dbb0"), looks := true }, kinds := [], alts := [], laidByText := true, laidKinds := [.data, .data, .data, .sentinel, .sentinel], laidTests := true, laidLooks := .later }
def TopEnergyUptoCardSaid : Prop := Claim7.holds Tryz.pinned (.plain (OpenSpec.upto topEnergySpec)) topEnergyUptoCard
end Rows
end Go.Proofs.YtkhpbclcfldhmaaGreatDoor

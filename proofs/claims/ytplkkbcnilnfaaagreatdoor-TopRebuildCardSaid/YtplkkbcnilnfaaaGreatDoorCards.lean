/-
  DERIVED. GIVEN WITH THE SEED: THE CARDS: each row of YtplkkbcnilnfaaaGreatDoorRows.lean that lists a variable, with what it lists TIED to the program's text (the seventh form; the later family's looks); each row that meets fmt, with fmt's text TOLD by the authors' own Lean function (tested against real Go, not proved from fmt's source: count such statements apart). THE CARD IS WHAT COUNTS. Prove the row's statement (the work); the ties are given (YtplkkbcnilnfaaaGreatDoorTie.lean); close each card by the builder's one call (the guide's Derived/Test/ToyasCard.lean, 'card_holds'). Laid BY PROGRAM, IN A SANDBOX (cutbox-door.mjs). By AI agents, Wed Nov 11 2026. No macro, syntax, notation, axiom, sorry.
-/
import Derived.Test.YtplkkbcnilnfaaaGreatDoorRows
import GoSem.ClaimSeven
namespace Go.Proofs.YtplkkbcnilnfaaaGreatDoor
namespace Rows

/-- THE TIED CARD OF 'gridhalltop.TopRebuild'. -/
def topRebuildCard : Claim7 := { stood := { row := topRebuildRow, standIns := [], harness := (true, "ebc336ba519c28c44560fb82276b0702d0857d902f5114e282d1c09307ac30d7"), looks := true }, kinds := [], alts := [], laidByText := true, laidKinds := [.data, .data, .data, .sentinel, .sentinel], laidTests := true, laidLooks := .later }
def TopRebuildCardSaid : Prop := Claim7.holds Tryz.pinned (.plain (OpenSpec.ofChange topRebuildSpec)) topRebuildCard

/-- THE SECOND FORM's CARD OF 'gridhalltop.TopRebuild'. -/
def topRebuildUptoCard : Claim7 := { stood := { row := topRebuildUptoRow, standIns := [], harness := (true, "ebc336ba519c28c44560fb82276b0702d0857d902f5114e282d1c09307ac30d7"), looks := true }, kinds := [], alts := [], laidByText := true, laidKinds := [.data, .data, .data, .sentinel, .sentinel], laidTests := true, laidLooks := .later }
def TopRebuildUptoCardSaid : Prop := Claim7.holds Tryz.pinned (.plain (OpenSpec.upto topRebuildSpec)) topRebuildUptoCard
end Rows
end Go.Proofs.YtplkkbcnilnfaaaGreatDoor

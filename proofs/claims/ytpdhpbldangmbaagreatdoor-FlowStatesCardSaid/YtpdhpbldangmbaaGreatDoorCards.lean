/-
  DERIVED. GIVEN WITH THE SEED: THE CARDS: each row of YtpdhpbldangmbaaGreatDoorRows.lean that lists a variable, with what it lists TIED to the program's text (the seventh form; the later family's looks); each row that meets fmt, with fmt's text TOLD by the authors' own Lean function (tested against real Go, not proved from fmt's source: count such statements apart). THE CARD IS WHAT COUNTS. Prove the row's statement (the work); the ties are given (YtpdhpbldangmbaaGreatDoorTie.lean); close each card by the builder's one call (the guide's Derived/Test/ToyasCard.lean, 'card_holds'). Laid BY PROGRAM, IN A SANDBOX (cutbox-door.mjs). By AI agents, Wed Nov 11 2026. No macro, syntax, notation, axiom, sorry.
-/
import Derived.Test.YtpdhpbldangmbaaGreatDoorRows
import GoSem.ClaimSeven
namespace Go.Proofs.YtpdhpbldangmbaaGreatDoor
namespace Rows

/-- THE TIED CARD OF 'gridhalllaw1.FlowStates'. -/
def flowStatesCard : Claim7 := { stood := { row := flowStatesRow, standIns := [], harness := (true, "9b3f06e22b91f5a8c352fc2085f146565e4c55b5b16ee159326b4d394475189b"), looks := true }, kinds := [], alts := [], laidByText := true, laidKinds := [.data, .data, .data, .sentinel, .sentinel], laidTests := true, laidLooks := .later }
def FlowStatesCardSaid : Prop := Claim7.holds Tryz.pinned (.plain (OpenSpec.ofChange flowStatesSpec)) flowStatesCard

/-- THE SECOND FORM's CARD OF 'gridhalllaw1.FlowStates'. -/
def flowStatesUptoCard : Claim7 := { stood := { row := flowStatesUptoRow, standIns := [], harness := (true, "9b3f06e22b91f5a8c352fc2085f146565e4c55b5b16ee159326b4d394475189b"), looks := true }, kinds := [], alts := [], laidByText := true, laidKinds := [.data, .data, .data, .sentinel, .sentinel], laidTests := true, laidLooks := .later }
def FlowStatesUptoCardSaid : Prop := Claim7.holds Tryz.pinned (.plain (OpenSpec.upto flowStatesSpec)) flowStatesUptoCard
end Rows
end Go.Proofs.YtpdhpbldangmbaaGreatDoor

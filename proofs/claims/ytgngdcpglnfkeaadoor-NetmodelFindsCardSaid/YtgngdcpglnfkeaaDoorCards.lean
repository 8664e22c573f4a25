/-
  DERIVED. GIVEN WITH THE SEED: THE CARDS: each row of YtgngdcpglnfkeaaDoorRows.lean that lists a variable, with what it lists TIED to the program's text (the seventh form; the later family's looks); each row that meets fmt, with fmt's text TOLD by the authors' own Lean function (tested against real Go, not proved from fmt's source: count such statements apart). THE CARD IS WHAT COUNTS. Prove the row's statement (the work); the ties are given (YtgngdcpglnfkeaaDoorTie.lean); close each card by the builder's one call (the guide's Derived/Test/ToyasCard.lean, 'card_holds'). Laid BY PROGRAM, IN A SANDBOX (cutbox-door.mjs). By AI agents, Wed Nov 11 2026. No macro, syntax, notation, axiom, sorry.
-/
import Derived.Test.YtgngdcpglnfkeaaDoorRows
import GoSem.ClaimSeven
namespace Go.Proofs.YtgngdcpglnfkeaaDoor
namespace Rows

/-- THE TIED CARD OF 'gridhalllaw1.NetmodelFinds'. -/
def netmodelFindsCard : Claim7 := { stood := { row := netmodelFindsRow, standIns := [], harness := (true, "28c9064526b3203e2645823ee1ae2c8cf521b9a35ed989a8ee7615abe044d6db"), looks := false }, kinds := [], alts := [], laidByText := true, laidKinds := [.listed, .data], laidTests := true, laidLooks := .later }
def NetmodelFindsCardSaid : Prop := Claim7.holds Tryd.pinned (.plain (OpenSpec.ofChange netmodelFindsSpec)) netmodelFindsCard

/-- THE SECOND FORM's CARD OF 'gridhalllaw1.NetmodelFinds'. -/
def netmodelFindsUptoCard : Claim7 := { stood := { row := netmodelFindsUptoRow, standIns := [], harness := (true, "28c9064526b3203e2645823ee1ae2c8cf521b9a35ed989a8ee7615abe044d6db"), looks := false }, kinds := [], alts := [], laidByText := true, laidKinds := [.listed, .data], laidTests := true, laidLooks := .later }
def NetmodelFindsUptoCardSaid : Prop := Claim7.holds Tryd.pinned (.plain (OpenSpec.upto netmodelFindsSpec)) netmodelFindsUptoCard
end Rows
end Go.Proofs.YtgngdcpglnfkeaaDoor

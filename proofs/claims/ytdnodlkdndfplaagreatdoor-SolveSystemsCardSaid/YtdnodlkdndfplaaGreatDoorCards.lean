/-
  DERIVED. GIVEN WITH THE SEED: THE CARDS: each row of YtdnodlkdndfplaaGreatDoorRows.lean that lists a variable, with what it lists TIED to the program's text (the seventh form; the later family's looks); each row that meets fmt, with fmt's text TOLD by the authors' own Lean function (tested against real Go, not proved from fmt's source: count such statements apart). THE CARD IS WHAT COUNTS. Prove the row's statement (the work); the ties are given (YtdnodlkdndfplaaGreatDoorTie.lean); close each card by the builder's one call (the guide's Derived/Test/ToyasCard.lean, 'card_holds'). Laid BY PROGRAM, IN A SANDBOX (cutbox-door.mjs). By AI agents, Wed Nov 11 2026. No macro, syntax, notation, axiom, sorry.
-/
import Derived.Test.YtdnodlkdndfplaaGreatDoorRows
import GoSem.ClaimSeven
namespace Go.Proofs.YtdnodlkdndfplaaGreatDoor
namespace Rows

/-- THE TIED CARD OF 'gridhalllaw1.MatrixSums'. -/
def matrixSumsCard : Claim7 := { stood := { row := matrixSumsRow, standIns := [], harness := (true, "c3402b151cbddd5634f7dc3957bff81483da8b557c1e57d7400b16dcdaba6b5c"), looks := true }, kinds := [], alts := [], laidByText := true, laidKinds := [.data, .data, .data, .sentinel, .sentinel], laidTests := true, laidLooks := .later }
def MatrixSumsCardSaid : Prop := Claim7.holds Tryz.pinned (.plain (OpenSpec.ofChange matrixSumsSpec)) matrixSumsCard

/-- THE TIED CARD OF 'gridhalllaw1.SolveRanks'. -/
def solveRanksCard : Claim7 := { stood := { row := solveRanksRow, standIns := [], harness := (true, "c3402b151cbddd5634f7dc3957bff81483da8b557c1e57d7400b16dcdaba6b5c"), looks := true }, kinds := [], alts := [], laidByText := true, laidKinds := [.data, .data, .data, .sentinel, .sentinel], laidTests := true, laidLooks := .later }
def SolveRanksCardSaid : Prop := Claim7.holds Tryz.pinned (.plain (OpenSpec.ofChange solveRanksSpec)) solveRanksCard

/-- THE TIED CARD OF 'gridhalllaw1.SolveDets'. -/
def solveDetsCard : Claim7 := { stood := { row := solveDetsRow, standIns := [], harness := (true, "c3402b151cbddd5634f7dc3957bff81483da8b557c1e57d7400b16dcdaba6b5c"), looks := true }, kinds := [], alts := [], laidByText := true, laidKinds := [.data, .data, .data, .sentinel, .sentinel], laidTests := true, laidLooks := .later }
def SolveDetsCardSaid : Prop := Claim7.holds Tryz.pinned (.plain (OpenSpec.ofChange solveDetsSpec)) solveDetsCard

/-- THE TIED CARD OF 'gridhalllaw1.SolveSystems'. -/
def solveSystemsCard : Claim7 := { stood := { row := solveSystemsRow, standIns := [], harness := (true, "c3402b151cbddd5634f7dc3957bff81483da8b557c1e57d7400b16dcdaba6b5c"), looks := true }, kinds := [], alts := [], laidByText := true, laidKinds := [.data, .data, .data, .sentinel, .sentinel], laidTests := true, laidLooks := .later }
def SolveSystemsCardSaid : Prop := Claim7.holds Tryz.pinned (.plain (OpenSpec.ofChange solveSystemsSpec)) solveSystemsCard

/-- THE TIED CARD OF 'gridhalllaw1.SimplexChecks'. -/
def simplexChecksCard : Claim7 := { stood := { row := simplexChecksRow, standIns := [], harness := (true, "c3402b151cbddd5634f7dc3957bff81483da8b557c1e57d7400b16dcdaba6b5c"), looks := true }, kinds := [], alts := [], laidByText := true, laidKinds := [.data, .data, .data, .sentinel, .sentinel], laidTests := true, laidLooks := .later }
def SimplexChecksCardSaid : Prop := Claim7.holds Tryz.pinned (.plain (OpenSpec.ofChange simplexChecksSpec)) simplexChecksCard

/-- THE TIED CARD OF 'gridhalllaw1.SimplexValues'. -/
def simplexValuesCard : Claim7 := { stood := { row := simplexValuesRow, standIns := [], harness := (true, "c3402b151cbddd5634f7dc3957bff81483da8b557c1e57d7400b16dcdaba6b5c"), looks := true }, kinds := [], alts := [], laidByText := true, laidKinds := [.data, .data, .data, .sentinel, .sentinel], laidTests := true, laidLooks := .later }
def SimplexValuesCardSaid : Prop := Claim7.holds Tryz.pinned (.plain (OpenSpec.ofChange simplexValuesSpec)) simplexValuesCard

/-- THE SECOND FORM's CARD OF 'gridhalllaw1.MatrixSums'. -/
def matrixSumsUptoCard : Claim7 := { stood := { row := matrixSumsUptoRow, standIns := [], harness := (true, "c3402b151cbddd5634f7dc3957bff81483da8b557c1e57d7400b16dcdaba6b5c"), looks := true }, kinds := [], alts := [], laidByText := true, laidKinds := [.data, .data, .data, .sentinel, .sentinel], laidTests := true, laidLooks := .later }
def MatrixSumsUptoCardSaid : Prop := Claim7.holds Tryz.pinned (.plain (OpenSpec.upto matrixSumsSpec)) matrixSumsUptoCard

/-- THE SECOND FORM's CARD OF 'gridhalllaw1.SolveRanks'. -/
def solveRanksUptoCard : Claim7 := { stood := { row := solveRanksUptoRow, standIns := [], harness := (true, "c3402b151cbddd5634f7dc3957bff81483da8b557c1e57d7400b16dcdaba6b5c"), looks := true }, kinds := [], alts := [], laidByText := true, laidKinds := [.data, .data, .data, .sentinel, .sentinel], laidTests := true, laidLooks := .later }
def SolveRanksUptoCardSaid : Prop := Claim7.holds Tryz.pinned (.plain (OpenSpec.upto solveRanksSpec)) solveRanksUptoCard

/-- THE SECOND FORM's CARD OF 'gridhalllaw1.SolveDets'. -/
def solveDetsUptoCard : Claim7 := { stood := { row := solveDetsUptoRow, standIns := [], harness := (true, "c3402b151cbddd5634f7dc3957bff81483da8b557c1e57d7400b16dcdaba6b5c"), looks := true }, kinds := [], alts := [], laidByText := true, laidKinds := [.data, .data, .data, .sentinel, .sentinel], laidTests := true, laidLooks := .later }
def SolveDetsUptoCardSaid : Prop := Claim7.holds Tryz.pinned (.plain (OpenSpec.upto solveDetsSpec)) solveDetsUptoCard

/-- THE SECOND FORM's CARD OF 'gridhalllaw1.SolveSystems'. -/
def solveSystemsUptoCard : Claim7 := { stood := { row := solveSystemsUptoRow, standIns := [], harness := (true, "c3402b151cbddd5634f7dc3957bff81483da8b557c1e57d7400b16dcdaba6b5c"), looks := true }, kinds := [], alts := [], laidByText := true, laidKinds := [.data, .data, .data, .sentinel, .sentinel], laidTests := true, laidLooks := .later }
def SolveSystemsUptoCardSaid : Prop := Claim7.holds Tryz.pinned (.plain (OpenSpec.upto solveSystemsSpec)) solveSystemsUptoCard

/-- THE SECOND FORM's CARD OF 'gridhalllaw1.SimplexChecks'. -/
def simplexChecksUptoCard : Claim7 := { stood := { row := simplexChecksUptoRow, standIns := [], harness := (true, "c3402b151cbddd5634f7dc3957bff81483da8b557c1e57d7400b16dcdaba6b5c"), looks := true }, kinds := [], alts := [], laidByText := true, laidKinds := [.data, .data, .data, .sentinel, .sentinel], laidTests := true, laidLooks := .later }
def SimplexChecksUptoCardSaid : Prop := Claim7.holds Tryz.pinned (.plain (OpenSpec.upto simplexChecksSpec)) simplexChecksUptoCard

/-- THE SECOND FORM's CARD OF 'gridhalllaw1.SimplexValues'. -/
def simplexValuesUptoCard : Claim7 := { stood := { row := simplexValuesUptoRow, standIns := [], harness := (true, "c3402b151cbddd5634f7dc3957bff81483da8b557c1e57d7400b16dcdaba6b5c"), looks := true }, kinds := [], alts := [], laidByText := true, laidKinds := [.data, .data, .data, .sentinel, .sentinel], laidTests := true, laidLooks := .later }
def SimplexValuesUptoCardSaid : Prop := Claim7.holds Tryz.pinned (.plain (OpenSpec.upto simplexValuesSpec)) simplexValuesUptoCard
end Rows
end Go.Proofs.YtdnodlkdndfplaaGreatDoor

/-
  DERIVED. GIVEN WITH THE SEED: THE CARDS: each row of YtnfgnkbgajhhbaaGreatDoorRows.lean that lists a variable, with what it lists TIED to the program's text (the seventh form; the later family's looks); each row that meets fmt, with fmt's text TOLD by the authors' own Lean function (tested against real Go, not proved from fmt's source: count such statements apart). THE CARD IS WHAT COUNTS. Prove the row's statement (the work); the ties are given (YtnfgnkbgajhhbaaGreatDoorTie.lean); close each card by the builder's one call (the guide's Derived/Test/ToyasCard.lean, 'card_holds'). Laid BY PROGRAM, IN A SANDBOX (cutbox-door.mjs). By AI agents, Wed Nov 11 2026. No macro, syntax, notation, axiom, sorry.
-/
import Derived.Test.YtnfgnkbgajhhbaaGreatDoorRows
import GoSem.ClaimSeven
namespace Go.Proofs.YtnfgnkbgajhhbaaGreatDoor
namespace Rows

/-- THE TIED CARD OF 'gridhalllaw1.MatrixChecks'. -/
def matrixChecksCard : Claim7 := { stood := { row := matrixChecksRow, standIns := [], harness := (true, "fd1630f34eac5a5826cace0bc622f304d78710aab7dcf71eb32c2fe6a197f7e1"), looks := true }, kinds := [], alts := [], laidByText := true, laidKinds := [.data, .data, .data, .sentinel, .sentinel], laidTests := true, laidLooks := .later }
def MatrixChecksCardSaid : Prop := Claim7.holds Tryz.pinned (.plain (OpenSpec.ofChange matrixChecksSpec)) matrixChecksCard

/-- THE TIED CARD OF 'gridhalllaw1.MatrixProducts'. -/
def matrixProductsCard : Claim7 := { stood := { row := matrixProductsRow, standIns := [], harness := (true, "fd1630f34eac5a5826cace0bc622f304d78710aab7dcf71eb32c2fe6a197f7e1"), looks := true }, kinds := [], alts := [], laidByText := true, laidKinds := [.data, .data, .data, .sentinel, .sentinel], laidTests := true, laidLooks := .later }
def MatrixProductsCardSaid : Prop := Claim7.holds Tryz.pinned (.plain (OpenSpec.ofChange matrixProductsSpec)) matrixProductsCard

/-- THE TIED CARD OF 'gridhalllaw1.MatrixDots'. -/
def matrixDotsCard : Claim7 := { stood := { row := matrixDotsRow, standIns := [], harness := (true, "fd1630f34eac5a5826cace0bc622f304d78710aab7dcf71eb32c2fe6a197f7e1"), looks := true }, kinds := [], alts := [], laidByText := true, laidKinds := [.data, .data, .data, .sentinel, .sentinel], laidTests := true, laidLooks := .later }
def MatrixDotsCardSaid : Prop := Claim7.holds Tryz.pinned (.plain (OpenSpec.ofChange matrixDotsSpec)) matrixDotsCard

/-- THE TIED CARD OF 'gridhalllaw1.MatrixSums'. -/
def matrixSumsCard : Claim7 := { stood := { row := matrixSumsRow, standIns := [], harness := (true, "fd1630f34eac5a5826cace0bc622f304d78710aab7dcf71eb32c2fe6a197f7e1"), looks := true }, kinds := [], alts := [], laidByText := true, laidKinds := [.data, .data, .data, .sentinel, .sentinel], laidTests := true, laidLooks := .later }
def MatrixSumsCardSaid : Prop := Claim7.holds Tryz.pinned (.plain (OpenSpec.ofChange matrixSumsSpec)) matrixSumsCard

/-- THE TIED CARD OF 'gridhalllaw1.LossTotals'. -/
def lossTotalsCard : Claim7 := { stood := { row := lossTotalsRow, standIns := [], harness := (true, "fd1630f34eac5a5826cace0bc622f304d78710aab7dcf71eb32c2fe6a197f7e1"), looks := true }, kinds := [], alts := [], laidByText := true, laidKinds := [.data, .data, .data, .sentinel, .sentinel], laidTests := true, laidLooks := .later }
def LossTotalsCardSaid : Prop := Claim7.holds Tryz.pinned (.plain (OpenSpec.ofChange lossTotalsSpec)) lossTotalsCard

/-- THE TIED CARD OF 'gridhalllaw1.LossChecks'. -/
def lossChecksCard : Claim7 := { stood := { row := lossChecksRow, standIns := [], harness := (true, "fd1630f34eac5a5826cace0bc622f304d78710aab7dcf71eb32c2fe6a197f7e1"), looks := true }, kinds := [], alts := [], laidByText := true, laidKinds := [.data, .data, .data, .sentinel, .sentinel], laidTests := true, laidLooks := .later }
def LossChecksCardSaid : Prop := Claim7.holds Tryz.pinned (.plain (OpenSpec.ofChange lossChecksSpec)) lossChecksCard

/-- THE SECOND FORM's CARD OF 'gridhalllaw1.MatrixChecks'. -/
def matrixChecksUptoCard : Claim7 := { stood := { row := matrixChecksUptoRow, standIns := [], harness := (true, "fd1630f34eac5a5826cace0bc622f304d78710aab7dcf71eb32c2fe6a197f7e1"), looks := true }, kinds := [], alts := [], laidByText := true, laidKinds := [.data, .data, .data, .sentinel, .sentinel], laidTests := true, laidLooks := .later }
def MatrixChecksUptoCardSaid : Prop := Claim7.holds Tryz.pinned (.plain (OpenSpec.upto matrixChecksSpec)) matrixChecksUptoCard

/-- THE SECOND FORM's CARD OF 'gridhalllaw1.MatrixProducts'. -/
def matrixProductsUptoCard : Claim7 := { stood := { row := matrixProductsUptoRow, standIns := [], harness := (true, "fd1630f34eac5a5826cace0bc622f304d78710aab7dcf71eb32c2fe6a197f7e1"), looks := true }, kinds := [], alts := [], laidByText := true, laidKinds := [.data, .data, .data, .sentinel, .sentinel], laidTests := true, laidLooks := .later }
def MatrixProductsUptoCardSaid : Prop := Claim7.holds Tryz.pinned (.plain (OpenSpec.upto matrixProductsSpec)) matrixProductsUptoCard

/-- THE SECOND FORM's CARD OF 'gridhalllaw1.MatrixDots'. -/
def matrixDotsUptoCard : Claim7 := { stood := { row := matrixDotsUptoRow, standIns := [], harness := (true, "fd1630f34eac5a5826cace0bc622f304d78710aab7dcf71eb32c2fe6a197f7e1"), looks := true }, kinds := [], alts := [], laidByText := true, laidKinds := [.data, .data, .data, .sentinel, .sentinel], laidTests := true, laidLooks := .later }
def MatrixDotsUptoCardSaid : Prop := Claim7.holds Tryz.pinned (.plain (OpenSpec.upto matrixDotsSpec)) matrixDotsUptoCard

/-- THE SECOND FORM's CARD OF 'gridhalllaw1.MatrixSums'. -/
def matrixSumsUptoCard : Claim7 := { stood := { row := matrixSumsUptoRow, standIns := [], harness := (true, "fd1630f34eac5a5826cace0bc622f304d78710aab7dcf71eb32c2fe6a197f7e1"), looks := true }, kinds := [], alts := [], laidByText := true, laidKinds := [.data, .data, .data, .sentinel, .sentinel], laidTests := true, laidLooks := .later }
def MatrixSumsUptoCardSaid : Prop := Claim7.holds Tryz.pinned (.plain (OpenSpec.upto matrixSumsSpec)) matrixSumsUptoCard

/-- THE SECOND FORM's CARD OF 'gridhalllaw1.LossTotals'. -/
def lossTotalsUptoCard : Claim7 := { stood := { row := lossTotalsUptoRow, standIns := [], harness := (true, "fd1630f34eac5a5826cace0bc622f304d78710aab7dcf71eb32c2fe6a197f7e1"), looks := true }, kinds := [], alts := [], laidByText := true, laidKinds := [.data, .data, .data, .sentinel, .sentinel], laidTests := true, laidLooks := .later }
def LossTotalsUptoCardSaid : Prop := Claim7.holds Tryz.pinned (.plain (OpenSpec.upto lossTotalsSpec)) lossTotalsUptoCard

/-- THE SECOND FORM's CARD OF 'gridhalllaw1.LossChecks'. -/
def lossChecksUptoCard : Claim7 := { stood := { row := lossChecksUptoRow, standIns := [], harness := (true, "fd1630f34eac5a5826cace0bc622f304d78710aab7dcf71eb32c2fe6a197f7e1"), looks := true }, kinds := [], alts := [], laidByText := true, laidKinds := [.data, .data, .data, .sentinel, .sentinel], laidTests := true, laidLooks := .later }
def LossChecksUptoCardSaid : Prop := Claim7.holds Tryz.pinned (.plain (OpenSpec.upto lossChecksSpec)) lossChecksUptoCard
end Rows
end Go.Proofs.YtnfgnkbgajhhbaaGreatDoor

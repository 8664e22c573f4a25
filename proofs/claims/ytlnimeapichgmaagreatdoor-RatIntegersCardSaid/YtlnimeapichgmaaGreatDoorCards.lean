/-
  DERIVED. GIVEN WITH THE SEED: THE CARDS: each row of YtlnimeapichgmaaGreatDoorRows.lean that lists a variable, with what it lists TIED to the program's text (the seventh form; the later family's looks); each row that meets fmt, with fmt's text TOLD by the authors' own Lean function (tested against real Go, not proved from fmt's source: count such statements apart). THE CARD IS WHAT COUNTS. Prove the row's statement (the work); the ties are given (YtlnimeapichgmaaGreatDoorTie.lean); close each card by the builder's one call (the guide's Derived/Test/ToyasCard.lean, 'card_holds'). Laid BY PROGRAM, IN A SANDBOX (cutbox-door.mjs). By AI agents, Wed Nov 11 2026. No macro, syntax, notation, axiom, sorry.
-/
import Derived.Test.YtlnimeapichgmaaGreatDoorRows
import GoSem.ClaimSeven
namespace Go.Proofs.YtlnimeapichgmaaGreatDoor
namespace Rows

/-- THE TIED CARD OF 'gridhalllaw1.RatChecks'. -/
def ratChecksCard : Claim7 := { stood := { row := ratChecksRow, standIns := [], harness := (true, "3ecd0cc7c2267a3f1a701865f50489c6c8f170f522cf1c9526999d6eac5ecdeb"), looks := true }, kinds := [], alts := [], laidByText := true, laidKinds := [.data, .data, .data, .sentinel, .sentinel], laidTests := true, laidLooks := .later }
def RatChecksCardSaid : Prop := Claim7.holds Tryz.pinned (.plain (OpenSpec.ofChange ratChecksSpec)) ratChecksCard

/-- THE TIED CARD OF 'gridhalllaw1.RatOfs'. -/
def ratOfsCard : Claim7 := { stood := { row := ratOfsRow, standIns := [], harness := (true, "3ecd0cc7c2267a3f1a701865f50489c6c8f170f522cf1c9526999d6eac5ecdeb"), looks := true }, kinds := [], alts := [], laidByText := true, laidKinds := [.data, .data, .data, .sentinel, .sentinel], laidTests := true, laidLooks := .later }
def RatOfsCardSaid : Prop := Claim7.holds Tryz.pinned (.plain (OpenSpec.ofChange ratOfsSpec)) ratOfsCard

/-- THE TIED CARD OF 'gridhalllaw1.RatSums'. -/
def ratSumsCard : Claim7 := { stood := { row := ratSumsRow, standIns := [], harness := (true, "3ecd0cc7c2267a3f1a701865f50489c6c8f170f522cf1c9526999d6eac5ecdeb"), looks := true }, kinds := [], alts := [], laidByText := true, laidKinds := [.data, .data, .data, .sentinel, .sentinel], laidTests := true, laidLooks := .later }
def RatSumsCardSaid : Prop := Claim7.holds Tryz.pinned (.plain (OpenSpec.ofChange ratSumsSpec)) ratSumsCard

/-- THE TIED CARD OF 'gridhalllaw1.RatProducts'. -/
def ratProductsCard : Claim7 := { stood := { row := ratProductsRow, standIns := [], harness := (true, "3ecd0cc7c2267a3f1a701865f50489c6c8f170f522cf1c9526999d6eac5ecdeb"), looks := true }, kinds := [], alts := [], laidByText := true, laidKinds := [.data, .data, .data, .sentinel, .sentinel], laidTests := true, laidLooks := .later }
def RatProductsCardSaid : Prop := Claim7.holds Tryz.pinned (.plain (OpenSpec.ofChange ratProductsSpec)) ratProductsCard

/-- THE TIED CARD OF 'gridhalllaw1.RatCompares'. -/
def ratComparesCard : Claim7 := { stood := { row := ratComparesRow, standIns := [], harness := (true, "3ecd0cc7c2267a3f1a701865f50489c6c8f170f522cf1c9526999d6eac5ecdeb"), looks := true }, kinds := [], alts := [], laidByText := true, laidKinds := [.data, .data, .data, .sentinel, .sentinel], laidTests := true, laidLooks := .later }
def RatComparesCardSaid : Prop := Claim7.holds Tryz.pinned (.plain (OpenSpec.ofChange ratComparesSpec)) ratComparesCard

/-- THE TIED CARD OF 'gridhalllaw1.RatIntegers'. -/
def ratIntegersCard : Claim7 := { stood := { row := ratIntegersRow, standIns := [], harness := (true, "3ecd0cc7c2267a3f1a701865f50489c6c8f170f522cf1c9526999d6eac5ecdeb"), looks := true }, kinds := [], alts := [], laidByText := true, laidKinds := [.data, .data, .data, .sentinel, .sentinel], laidTests := true, laidLooks := .later }
def RatIntegersCardSaid : Prop := Claim7.holds Tryz.pinned (.plain (OpenSpec.ofChange ratIntegersSpec)) ratIntegersCard

/-- THE TIED CARD OF 'gridhalllaw1.RatLists'. -/
def ratListsCard : Claim7 := { stood := { row := ratListsRow, standIns := [], harness := (true, "3ecd0cc7c2267a3f1a701865f50489c6c8f170f522cf1c9526999d6eac5ecdeb"), looks := true }, kinds := [], alts := [], laidByText := true, laidKinds := [.data, .data, .data, .sentinel, .sentinel], laidTests := true, laidLooks := .later }
def RatListsCardSaid : Prop := Claim7.holds Tryz.pinned (.plain (OpenSpec.ofChange ratListsSpec)) ratListsCard

/-- THE SECOND FORM's CARD OF 'gridhalllaw1.RatChecks'. -/
def ratChecksUptoCard : Claim7 := { stood := { row := ratChecksUptoRow, standIns := [], harness := (true, "3ecd0cc7c2267a3f1a701865f50489c6c8f170f522cf1c9526999d6eac5ecdeb"), looks := true }, kinds := [], alts := [], laidByText := true, laidKinds := [.data, .data, .data, .sentinel, .sentinel], laidTests := true, laidLooks := .later }
def RatChecksUptoCardSaid : Prop := Claim7.holds Tryz.pinned (.plain (OpenSpec.upto ratChecksSpec)) ratChecksUptoCard

/-- THE SECOND FORM's CARD OF 'gridhalllaw1.RatOfs'. -/
def ratOfsUptoCard : Claim7 := { stood := { row := ratOfsUptoRow, standIns := [], harness := (true, "3ecd0cc7c2267a3f1a701865f50489c6c8f170f522cf1c9526999d6eac5ecdeb"), looks := true }, kinds := [], alts := [], laidByText := true, laidKinds := [.data, .data, .data, .sentinel, .sentinel], laidTests := true, laidLooks := .later }
def RatOfsUptoCardSaid : Prop := Claim7.holds Tryz.pinned (.plain (OpenSpec.upto ratOfsSpec)) ratOfsUptoCard

/-- THE SECOND FORM's CARD OF 'gridhalllaw1.RatSums'. -/
def ratSumsUptoCard : Claim7 := { stood := { row := ratSumsUptoRow, standIns := [], harness := (true, "3ecd0cc7c2267a3f1a701865f50489c6c8f170f522cf1c9526999d6eac5ecdeb"), looks := true }, kinds := [], alts := [], laidByText := true, laidKinds := [.data, .data, .data, .sentinel, .sentinel], laidTests := true, laidLooks := .later }
def RatSumsUptoCardSaid : Prop := Claim7.holds Tryz.pinned (.plain (OpenSpec.upto ratSumsSpec)) ratSumsUptoCard

/-- THE SECOND FORM's CARD OF 'gridhalllaw1.RatProducts'. -/
def ratProductsUptoCard : Claim7 := { stood := { row := ratProductsUptoRow, standIns := [], harness := (true, "3ecd0cc7c2267a3f1a701865f50489c6c8f170f522cf1c9526999d6eac5ecdeb"), looks := true }, kinds := [], alts := [], laidByText := true, laidKinds := [.data, .data, .data, .sentinel, .sentinel], laidTests := true, laidLooks := .later }
def RatProductsUptoCardSaid : Prop := Claim7.holds Tryz.pinned (.plain (OpenSpec.upto ratProductsSpec)) ratProductsUptoCard

/-- THE SECOND FORM's CARD OF 'gridhalllaw1.RatCompares'. -/
def ratComparesUptoCard : Claim7 := { stood := { row := ratComparesUptoRow, standIns := [], harness := (true, "3ecd0cc7c2267a3f1a701865f50489c6c8f170f522cf1c9526999d6eac5ecdeb"), looks := true }, kinds := [], alts := [], laidByText := true, laidKinds := [.data, .data, .data, .sentinel, .sentinel], laidTests := true, laidLooks := .later }
def RatComparesUptoCardSaid : Prop := Claim7.holds Tryz.pinned (.plain (OpenSpec.upto ratComparesSpec)) ratComparesUptoCard

/-- THE SECOND FORM's CARD OF 'gridhalllaw1.RatIntegers'. -/
def ratIntegersUptoCard : Claim7 := { stood := { row := ratIntegersUptoRow, standIns := [], harness := (true, "3ecd0cc7c2267a3f1a701865f50489c6c8f170f522cf1c9526999d6eac5ecdeb"), looks := true }, kinds := [], alts := [], laidByText := true, laidKinds := [.data, .data, .data, .sentinel, .sentinel], laidTests := true, laidLooks := .later }
def RatIntegersUptoCardSaid : Prop := Claim7.holds Tryz.pinned (.plain (OpenSpec.upto ratIntegersSpec)) ratIntegersUptoCard

/-- THE SECOND FORM's CARD OF 'gridhalllaw1.RatLists'. -/
def ratListsUptoCard : Claim7 := { stood := { row := ratListsUptoRow, standIns := [], harness := (true, "3ecd0cc7c2267a3f1a701865f50489c6c8f170f522cf1c9526999d6eac5ecdeb"), looks := true }, kinds := [], alts := [], laidByText := true, laidKinds := [.data, .data, .data, .sentinel, .sentinel], laidTests := true, laidLooks := .later }
def RatListsUptoCardSaid : Prop := Claim7.holds Tryz.pinned (.plain (OpenSpec.upto ratListsSpec)) ratListsUptoCard
end Rows
end Go.Proofs.YtlnimeapichgmaaGreatDoor

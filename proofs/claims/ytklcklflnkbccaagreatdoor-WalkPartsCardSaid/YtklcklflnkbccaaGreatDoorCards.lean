/-
  DERIVED. GIVEN WITH THE SEED: THE CARDS: each row of YtklcklflnkbccaaGreatDoorRows.lean that lists a variable, with what it lists TIED to the program's text (the seventh form; the later family's looks); each row that meets fmt, with fmt's text TOLD by the authors' own Lean function (tested against real Go, not proved from fmt's source: count such statements apart). THE CARD IS WHAT COUNTS. Prove the row's statement (the work); the ties are given (YtklcklflnkbccaaGreatDoorTie.lean); close each card by the builder's one call (the guide's Derived/Test/ToyasCard.lean, 'card_holds'). Laid BY PROGRAM, IN A SANDBOX (cutbox-door.mjs). By AI agents, Wed Nov 11 2026. No macro, syntax, notation, axiom, sorry.
-/
import Derived.Test.YtklcklflnkbccaaGreatDoorRows
import GoSem.ClaimSeven
namespace Go.Proofs.YtklcklflnkbccaaGreatDoor
namespace Rows

/-- THE TIED CARD OF 'stillroomlaw11.WalkNext'. -/
def walkNextCard : Claim7 := { stood := { row := walkNextRow, standIns := [], harness := (true, "5b8cf6ae5966c2a5e733c87eda8413fcbf2cd475c7ac9616a1c76e20371bedd6"), looks := true }, kinds := [], alts := [], laidByText := true, laidKinds := [.data, .data], laidTests := true, laidLooks := .later }
def WalkNextCardSaid : Prop := Claim7.holds Tryz.pinned (.plain (OpenSpec.ofChange walkNextSpec)) walkNextCard

/-- THE TIED CARD OF 'stillroomlaw11.WalkParts'. -/
def walkPartsCard : Claim7 := { stood := { row := walkPartsRow, standIns := [], harness := (true, "5b8cf6ae5966c2a5e733c87eda8413fcbf2cd475c7ac9616a1c76e20371bedd6"), looks := true }, kinds := [], alts := [], laidByText := true, laidKinds := [.data, .data], laidTests := true, laidLooks := .later }
def WalkPartsCardSaid : Prop := Claim7.holds Tryz.pinned (.plain (OpenSpec.ofChange walkPartsSpec)) walkPartsCard

/-- THE TIED CARD OF 'stillroomlaw10.IndexCorrupt'. -/
def indexCorruptCard : Claim7 := { stood := { row := indexCorruptRow, standIns := [], harness := (true, "5b8cf6ae5966c2a5e733c87eda8413fcbf2cd475c7ac9616a1c76e20371bedd6"), looks := true }, kinds := [], alts := [], laidByText := true, laidKinds := [.data, .data], laidTests := true, laidLooks := .later }
def IndexCorruptCardSaid : Prop := Claim7.holds Tryz.pinned (.plain (OpenSpec.ofChange indexCorruptSpec)) indexCorruptCard

/-- THE TIED CARD OF 'stillroomlaw10.IndexSmall'. -/
def indexSmallCard : Claim7 := { stood := { row := indexSmallRow, standIns := [], harness := (true, "5b8cf6ae5966c2a5e733c87eda8413fcbf2cd475c7ac9616a1c76e20371bedd6"), looks := true }, kinds := [], alts := [], laidByText := true, laidKinds := [.data, .data], laidTests := true, laidLooks := .later }
def IndexSmallCardSaid : Prop := Claim7.holds Tryz.pinned (.plain (OpenSpec.ofChange indexSmallSpec)) indexSmallCard

/-- THE TIED CARD OF 'stillroomlaw10.IndexAgain'. -/
def indexAgainCard : Claim7 := { stood := { row := indexAgainRow, standIns := [], harness := (true, "5b8cf6ae5966c2a5e733c87eda8413fcbf2cd475c7ac9616a1c76e20371bedd6"), looks := true }, kinds := [], alts := [], laidByText := true, laidKinds := [.data, .data], laidTests := true, laidLooks := .later }
def IndexAgainCardSaid : Prop := Claim7.holds Tryz.pinned (.plain (OpenSpec.ofChange indexAgainSpec)) indexAgainCard

/-- THE TIED CARD OF 'stillroomlaw10.IndexWhole'. -/
def indexWholeCard : Claim7 := { stood := { row := indexWholeRow, standIns := [], harness := (true, "5b8cf6ae5966c2a5e733c87eda8413fcbf2cd475c7ac9616a1c76e20371bedd6"), looks := true }, kinds := [], alts := [], laidByText := true, laidKinds := [.data, .data], laidTests := true, laidLooks := .later }
def IndexWholeCardSaid : Prop := Claim7.holds Tryz.pinned (.plain (OpenSpec.ofChange indexWholeSpec)) indexWholeCard

/-- THE SECOND FORM's CARD OF 'stillroomlaw11.WalkNext'. -/
def walkNextUptoCard : Claim7 := { stood := { row := walkNextUptoRow, standIns := [], harness := (true, "5b8cf6ae5966c2a5e733c87eda8413fcbf2cd475c7ac9616a1c76e20371bedd6"), looks := true }, kinds := [], alts := [], laidByText := true, laidKinds := [.data, .data], laidTests := true, laidLooks := .later }
def WalkNextUptoCardSaid : Prop := Claim7.holds Tryz.pinned (.plain (OpenSpec.upto walkNextSpec)) walkNextUptoCard

/-- THE SECOND FORM's CARD OF 'stillroomlaw11.WalkParts'. -/
def walkPartsUptoCard : Claim7 := { stood := { row := walkPartsUptoRow, standIns := [], harness := (true, "5b8cf6ae5966c2a5e733c87eda8413fcbf2cd475c7ac9616a1c76e20371bedd6"), looks := true }, kinds := [], alts := [], laidByText := true, laidKinds := [.data, .data], laidTests := true, laidLooks := .later }
def WalkPartsUptoCardSaid : Prop := Claim7.holds Tryz.pinned (.plain (OpenSpec.upto walkPartsSpec)) walkPartsUptoCard

/-- THE SECOND FORM's CARD OF 'stillroomlaw10.IndexCorrupt'. -/
def indexCorruptUptoCard : Claim7 := { stood := { row := indexCorruptUptoRow, standIns := [], harness := (true, "5b8cf6ae5966c2a5e733c87eda8413fcbf2cd475c7ac9616a1c76e20371bedd6"), looks := true }, kinds := [], alts := [], laidByText := true, laidKinds := [.data, .data], laidTests := true, laidLooks := .later }
def IndexCorruptUptoCardSaid : Prop := Claim7.holds Tryz.pinned (.plain (OpenSpec.upto indexCorruptSpec)) indexCorruptUptoCard

/-- THE SECOND FORM's CARD OF 'stillroomlaw10.IndexSmall'. -/
def indexSmallUptoCard : Claim7 := { stood := { row := indexSmallUptoRow, standIns := [], harness := (true, "5b8cf6ae5966c2a5e733c87eda8413fcbf2cd475c7ac9616a1c76e20371bedd6"), looks := true }, kinds := [], alts := [], laidByText := true, laidKinds := [.data, .data], laidTests := true, laidLooks := .later }
def IndexSmallUptoCardSaid : Prop := Claim7.holds Tryz.pinned (.plain (OpenSpec.upto indexSmallSpec)) indexSmallUptoCard

/-- THE SECOND FORM's CARD OF 'stillroomlaw10.IndexAgain'. -/
def indexAgainUptoCard : Claim7 := { stood := { row := indexAgainUptoRow, standIns := [], harness := (true, "5b8cf6ae5966c2a5e733c87eda8413fcbf2cd475c7ac9616a1c76e20371bedd6"), looks := true }, kinds := [], alts := [], laidByText := true, laidKinds := [.data, .data], laidTests := true, laidLooks := .later }
def IndexAgainUptoCardSaid : Prop := Claim7.holds Tryz.pinned (.plain (OpenSpec.upto indexAgainSpec)) indexAgainUptoCard

/-- THE SECOND FORM's CARD OF 'stillroomlaw10.IndexWhole'. -/
def indexWholeUptoCard : Claim7 := { stood := { row := indexWholeUptoRow, standIns := [], harness := (true, "5b8cf6ae5966c2a5e733c87eda8413fcbf2cd475c7ac9616a1c76e20371bedd6"), looks := true }, kinds := [], alts := [], laidByText := true, laidKinds := [.data, .data], laidTests := true, laidLooks := .later }
def IndexWholeUptoCardSaid : Prop := Claim7.holds Tryz.pinned (.plain (OpenSpec.upto indexWholeSpec)) indexWholeUptoCard
end Rows
end Go.Proofs.YtklcklflnkbccaaGreatDoor

/-
  DERIVED. GIVEN WITH THE SEED: THE CARDS: each row of YtfhagbcfbbggeaaGreatDoorRows.lean that lists a variable, with what it lists TIED to the program's text (the seventh form; the later family's looks); each row that meets fmt, with fmt's text TOLD by the authors' own Lean function (tested against real Go, not proved from fmt's source: count such statements apart). THE CARD IS WHAT COUNTS. Prove the row's statement (the work); the ties are given (YtfhagbcfbbggeaaGreatDoorTie.lean); close each card by the builder's one call (the guide's Derived/Test/ToyasCard.lean, 'card_holds'). Laid BY PROGRAM, IN A SANDBOX (cutbox-door.mjs). By AI agents, Wed Nov 11 2026. No macro, syntax, notation, axiom, sorry.
-/
import Derived.Test.YtfhagbcfbbggeaaGreatDoorRows
import GoSem.ClaimSeven
namespace Go.Proofs.YtfhagbcfbbggeaaGreatDoor
namespace Rows

/-- THE TIED CARD OF 'stillroomlaw10.IndexCorrupt'. -/
def indexCorruptCard : Claim7 := { stood := { row := indexCorruptRow, standIns := [], harness := (true, "55ad29d1277a912f9295a3e57ddd1d9ebe56405ce0726f27bf61efd500476171"), looks := true }, kinds := [], alts := [], laidByText := true, laidKinds := [.data, .data], laidTests := true, laidLooks := .later }
def IndexCorruptCardSaid : Prop := Claim7.holds Tryz.pinned (.plain (OpenSpec.ofChange indexCorruptSpec)) indexCorruptCard

/-- THE TIED CARD OF 'stillroomlaw10.IndexSmall'. -/
def indexSmallCard : Claim7 := { stood := { row := indexSmallRow, standIns := [], harness := (true, "55ad29d1277a912f9295a3e57ddd1d9ebe56405ce0726f27bf61efd500476171"), looks := true }, kinds := [], alts := [], laidByText := true, laidKinds := [.data, .data], laidTests := true, laidLooks := .later }
def IndexSmallCardSaid : Prop := Claim7.holds Tryz.pinned (.plain (OpenSpec.ofChange indexSmallSpec)) indexSmallCard

/-- THE TIED CARD OF 'stillroomlaw10.IndexAgain'. -/
def indexAgainCard : Claim7 := { stood := { row := indexAgainRow, standIns := [], harness := (true, "55ad29d1277a912f9295a3e57ddd1d9ebe56405ce0726f27bf61efd500476171"), looks := true }, kinds := [], alts := [], laidByText := true, laidKinds := [.data, .data], laidTests := true, laidLooks := .later }
def IndexAgainCardSaid : Prop := Claim7.holds Tryz.pinned (.plain (OpenSpec.ofChange indexAgainSpec)) indexAgainCard

/-- THE TIED CARD OF 'stillroomlaw10.IndexWhole'. -/
def indexWholeCard : Claim7 := { stood := { row := indexWholeRow, standIns := [], harness := (true, "55ad29d1277a912f9295a3e57ddd1d9ebe56405ce0726f27bf61efd500476171"), looks := true }, kinds := [], alts := [], laidByText := true, laidKinds := [.data, .data], laidTests := true, laidLooks := .later }
def IndexWholeCardSaid : Prop := Claim7.holds Tryz.pinned (.plain (OpenSpec.ofChange indexWholeSpec)) indexWholeCard

/-- THE SECOND FORM's CARD OF 'stillroomlaw10.IndexCorrupt'. -/
def indexCorruptUptoCard : Claim7 := { stood := { row := indexCorruptUptoRow, standIns := [], harness := (true, "55ad29d1277a912f9295a3e57ddd1d9ebe56405ce0726f27bf61efd500476171"), looks := true }, kinds := [], alts := [], laidByText := true, laidKinds := [.data, .data], laidTests := true, laidLooks := .later }
def IndexCorruptUptoCardSaid : Prop := Claim7.holds Tryz.pinned (.plain (OpenSpec.upto indexCorruptSpec)) indexCorruptUptoCard

/-- THE SECOND FORM's CARD OF 'stillroomlaw10.IndexSmall'. -/
def indexSmallUptoCard : Claim7 := { stood := { row := indexSmallUptoRow, standIns := [], harness := (true, "55ad29d1277a912f9295a3e57ddd1d9ebe56405ce0726f27bf61efd500476171"), looks := true }, kinds := [], alts := [], laidByText := true, laidKinds := [.data, .data], laidTests := true, laidLooks := .later }
def IndexSmallUptoCardSaid : Prop := Claim7.holds Tryz.pinned (.plain (OpenSpec.upto indexSmallSpec)) indexSmallUptoCard

/-- THE SECOND FORM's CARD OF 'stillroomlaw10.IndexAgain'. -/
def indexAgainUptoCard : Claim7 := { stood := { row := indexAgainUptoRow, standIns := [], harness := (true, "55ad29d1277a912f9295a3e57ddd1d9ebe56405ce0726f27bf61efd500476171"), looks := true }, kinds := [], alts := [], laidByText := true, laidKinds := [.data, .data], laidTests := true, laidLooks := .later }
def IndexAgainUptoCardSaid : Prop := Claim7.holds Tryz.pinned (.plain (OpenSpec.upto indexAgainSpec)) indexAgainUptoCard

/-- THE SECOND FORM's CARD OF 'stillroomlaw10.IndexWhole'. -/
def indexWholeUptoCard : Claim7 := { stood := { row := indexWholeUptoRow, standIns := [], harness := (true, "55ad29d1277a912f9295a3e57ddd1d9ebe56405ce0726f27bf61efd500476171"), looks := true }, kinds := [], alts := [], laidByText := true, laidKinds := [.data, .data], laidTests := true, laidLooks := .later }
def IndexWholeUptoCardSaid : Prop := Claim7.holds Tryz.pinned (.plain (OpenSpec.upto indexWholeSpec)) indexWholeUptoCard
end Rows
end Go.Proofs.YtfhagbcfbbggeaaGreatDoor

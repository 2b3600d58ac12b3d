/-
  DERIVED. GIVEN WITH THE SEED: THE CARDS: each row of YtkimaejoeapmnaaGreatDoorRows.lean that lists a variable, with what it lists TIED to the program's text (the seventh form; the later family's looks); each row that meets fmt, with fmt's text TOLD by the authors' own Lean function (tested against real Go, not proved from fmt's source: count such statements apart). THE CARD IS WHAT COUNTS. Prove the row's statement (the work); the ties are given (YtkimaejoeapmnaaGreatDoorTie.lean); close each card by the builder's one call (the guide's Derived/Test/ToyasCard.lean, 'card_holds'). Laid BY PROGRAM, IN A SANDBOX (cutbox-door.mjs). By AI agents, Wed Nov 11 2026. No macro, syntax, notation, axiom, sorry.
-/
import Derived.Test.YtkimaejoeapmnaaGreatDoorRows
import GoSem.ClaimSeven
namespace Go.Proofs.YtkimaejoeapmnaaGreatDoor
namespace Rows

/-- THE TIED CARD OF 'stillroomlaw19.MendBytes'. -/
def mendBytesCard : Claim7 := { stood := { row := mendBytesRow, standIns := [], harness := (true, "9e30b53072c453298040faea591d32e5c26b90342ba056ffd7e91d62b68c43a6"), looks := true }, kinds := [], alts := [], laidByText := true, laidKinds := [.data, .data], laidTests := true, laidLooks := .later }
def MendBytesCardSaid : Prop := Claim7.holds Tryz.pinned (.plain (OpenSpec.ofChange mendBytesSpec)) mendBytesCard

/-- THE TIED CARD OF 'stillroomlaw19.MendLoose'. -/
def mendLooseCard : Claim7 := { stood := { row := mendLooseRow, standIns := [], harness := (true, "9e30b53072c453298040faea591d32e5c26b90342ba056ffd7e91d62b68c43a6"), looks := true }, kinds := [], alts := [], laidByText := true, laidKinds := [.data, .data], laidTests := true, laidLooks := .later }
def MendLooseCardSaid : Prop := Claim7.holds Tryz.pinned (.plain (OpenSpec.ofChange mendLooseSpec)) mendLooseCard

/-- THE TIED CARD OF 'stillroomlaw19.MendAgain'. -/
def mendAgainCard : Claim7 := { stood := { row := mendAgainRow, standIns := [], harness := (true, "9e30b53072c453298040faea591d32e5c26b90342ba056ffd7e91d62b68c43a6"), looks := true }, kinds := [], alts := [], laidByText := true, laidKinds := [.data, .data], laidTests := true, laidLooks := .later }
def MendAgainCardSaid : Prop := Claim7.holds Tryz.pinned (.plain (OpenSpec.ofChange mendAgainSpec)) mendAgainCard

/-- THE SECOND FORM's CARD OF 'stillroomlaw19.MendBytes'. -/
def mendBytesUptoCard : Claim7 := { stood := { row := mendBytesUptoRow, standIns := [], harness := (true, "9e30b53072c453298040faea591d32e5c26b90342ba056ffd7e91d62b68c43a6"), looks := true }, kinds := [], alts := [], laidByText := true, laidKinds := [.data, .data], laidTests := true, laidLooks := .later }
def MendBytesUptoCardSaid : Prop := Claim7.holds Tryz.pinned (.plain (OpenSpec.upto mendBytesSpec)) mendBytesUptoCard

/-- THE SECOND FORM's CARD OF 'stillroomlaw19.MendLoose'. -/
def mendLooseUptoCard : Claim7 := { stood := { row := mendLooseUptoRow, standIns := [], harness := (true, "9e30b53072c453298040faea591d32e5c26b90342ba056ffd7e91d62b68c43a6"), looks := true }, kinds := [], alts := [], laidByText := true, laidKinds := [.data, .data], laidTests := true, laidLooks := .later }
def MendLooseUptoCardSaid : Prop := Claim7.holds Tryz.pinned (.plain (OpenSpec.upto mendLooseSpec)) mendLooseUptoCard

/-- THE SECOND FORM's CARD OF 'stillroomlaw19.MendAgain'. -/
def mendAgainUptoCard : Claim7 := { stood := { row := mendAgainUptoRow, standIns := [], harness := (true, "9e30b53072c453298040faea591d32e5c26b90342ba056ffd7e91d62b68c43a6"), looks := true }, kinds := [], alts := [], laidByText := true, laidKinds := [.data, .data], laidTests := true, laidLooks := .later }
def MendAgainUptoCardSaid : Prop := Claim7.holds Tryz.pinned (.plain (OpenSpec.upto mendAgainSpec)) mendAgainUptoCard
end Rows
end Go.Proofs.YtkimaejoeapmnaaGreatDoor

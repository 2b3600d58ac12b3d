/-
  DERIVED. GIVEN WITH THE SEED: THE CARDS: each row of YtjcppneoncpdbaaGreatDoorRows.lean that lists a variable, with what it lists TIED to the program's text (the seventh form; the later family's looks); each row that meets fmt, with fmt's text TOLD by the authors' own Lean function (tested against real Go, not proved from fmt's source: count such statements apart). THE CARD IS WHAT COUNTS. Prove the row's statement (the work); the ties are given (YtjcppneoncpdbaaGreatDoorTie.lean); close each card by the builder's one call (the guide's Derived/Test/ToyasCard.lean, 'card_holds'). Laid BY PROGRAM, IN A SANDBOX (cutbox-door.mjs). By AI agents, Wed Nov 11 2026. No macro, syntax, notation, axiom, sorry.
-/
import Derived.Test.YtjcppneoncpdbaaGreatDoorRows
import GoSem.ClaimSeven
namespace Go.Proofs.YtjcppneoncpdbaaGreatDoor
namespace Rows

/-- THE TIED CARD OF 'stillroomlaw18.CommitArgs'. -/
def commitArgsCard : Claim7 := { stood := { row := commitArgsRow, standIns := [], harness := (true, "859ad2da367275c154f8a0d8059293cfc5d3e5c851d32366dcf05c5fb0f9568d"), looks := true }, kinds := [], alts := [], laidByText := true, laidKinds := [.data, .data], laidTests := true, laidLooks := .later }
def CommitArgsCardSaid : Prop := Claim7.holds Tryz.pinned (.plain (OpenSpec.ofChange commitArgsSpec)) commitArgsCard

/-- THE TIED CARD OF 'stillroomlaw18.CommitFull'. -/
def commitFullCard : Claim7 := { stood := { row := commitFullRow, standIns := [], harness := (true, "859ad2da367275c154f8a0d8059293cfc5d3e5c851d32366dcf05c5fb0f9568d"), looks := true }, kinds := [], alts := [], laidByText := true, laidKinds := [.data, .data], laidTests := true, laidLooks := .later }
def CommitFullCardSaid : Prop := Claim7.holds Tryz.pinned (.plain (OpenSpec.ofChange commitFullSpec)) commitFullCard

/-- THE TIED CARD OF 'stillroomlaw19.MendBytes'. -/
def mendBytesCard : Claim7 := { stood := { row := mendBytesRow, standIns := [], harness := (true, "859ad2da367275c154f8a0d8059293cfc5d3e5c851d32366dcf05c5fb0f9568d"), looks := true }, kinds := [], alts := [], laidByText := true, laidKinds := [.data, .data], laidTests := true, laidLooks := .later }
def MendBytesCardSaid : Prop := Claim7.holds Tryz.pinned (.plain (OpenSpec.ofChange mendBytesSpec)) mendBytesCard

/-- THE TIED CARD OF 'stillroomlaw19.MendReach'. -/
def mendReachCard : Claim7 := { stood := { row := mendReachRow, standIns := [], harness := (true, "859ad2da367275c154f8a0d8059293cfc5d3e5c851d32366dcf05c5fb0f9568d"), looks := true }, kinds := [], alts := [], laidByText := true, laidKinds := [.data, .data], laidTests := true, laidLooks := .later }
def MendReachCardSaid : Prop := Claim7.holds Tryz.pinned (.plain (OpenSpec.ofChange mendReachSpec)) mendReachCard

/-- THE TIED CARD OF 'stillroomlaw19.MendLoose'. -/
def mendLooseCard : Claim7 := { stood := { row := mendLooseRow, standIns := [], harness := (true, "859ad2da367275c154f8a0d8059293cfc5d3e5c851d32366dcf05c5fb0f9568d"), looks := true }, kinds := [], alts := [], laidByText := true, laidKinds := [.data, .data], laidTests := true, laidLooks := .later }
def MendLooseCardSaid : Prop := Claim7.holds Tryz.pinned (.plain (OpenSpec.ofChange mendLooseSpec)) mendLooseCard

/-- THE SECOND FORM's CARD OF 'stillroomlaw18.CommitArgs'. -/
def commitArgsUptoCard : Claim7 := { stood := { row := commitArgsUptoRow, standIns := [], harness := (true, "859ad2da367275c154f8a0d8059293cfc5d3e5c851d32366dcf05c5fb0f9568d"), looks := true }, kinds := [], alts := [], laidByText := true, laidKinds := [.data, .data], laidTests := true, laidLooks := .later }
def CommitArgsUptoCardSaid : Prop := Claim7.holds Tryz.pinned (.plain (OpenSpec.upto commitArgsSpec)) commitArgsUptoCard

/-- THE SECOND FORM's CARD OF 'stillroomlaw18.CommitFull'. -/
def commitFullUptoCard : Claim7 := { stood := { row := commitFullUptoRow, standIns := [], harness := (true, "859ad2da367275c154f8a0d8059293cfc5d3e5c851d32366dcf05c5fb0f9568d"), looks := true }, kinds := [], alts := [], laidByText := true, laidKinds := [.data, .data], laidTests := true, laidLooks := .later }
def CommitFullUptoCardSaid : Prop := Claim7.holds Tryz.pinned (.plain (OpenSpec.upto commitFullSpec)) commitFullUptoCard

/-- THE SECOND FORM's CARD OF 'stillroomlaw19.MendBytes'. -/
def mendBytesUptoCard : Claim7 := { stood := { row := mendBytesUptoRow, standIns := [], harness := (true, "859ad2da367275c154f8a0d8059293cfc5d3e5c851d32366dcf05c5fb0f9568d"), looks := true }, kinds := [], alts := [], laidByText := true, laidKinds := [.data, .data], laidTests := true, laidLooks := .later }
def MendBytesUptoCardSaid : Prop := Claim7.holds Tryz.pinned (.plain (OpenSpec.upto mendBytesSpec)) mendBytesUptoCard

/-- THE SECOND FORM's CARD OF 'stillroomlaw19.MendReach'. -/
def mendReachUptoCard : Claim7 := { stood := { row := mendReachUptoRow, standIns := [], harness := (true, "859ad2da367275c154f8a0d8059293cfc5d3e5c851d32366dcf05c5fb0f9568d"), looks := true }, kinds := [], alts := [], laidByText := true, laidKinds := [.data, .data], laidTests := true, laidLooks := .later }
def MendReachUptoCardSaid : Prop := Claim7.holds Tryz.pinned (.plain (OpenSpec.upto mendReachSpec)) mendReachUptoCard

/-- THE SECOND FORM's CARD OF 'stillroomlaw19.MendLoose'. -/
def mendLooseUptoCard : Claim7 := { stood := { row := mendLooseUptoRow, standIns := [], harness := (true, "859ad2da367275c154f8a0d8059293cfc5d3e5c851d32366dcf05c5fb0f9568d"), looks := true }, kinds := [], alts := [], laidByText := true, laidKinds := [.data, .data], laidTests := true, laidLooks := .later }
def MendLooseUptoCardSaid : Prop := Claim7.holds Tryz.pinned (.plain (OpenSpec.upto mendLooseSpec)) mendLooseUptoCard
end Rows
end Go.Proofs.YtjcppneoncpdbaaGreatDoor

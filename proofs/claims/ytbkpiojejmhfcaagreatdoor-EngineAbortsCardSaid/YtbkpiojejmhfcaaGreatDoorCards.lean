/-
  DERIVED. GIVEN WITH THE SEED: THE CARDS: each row of YtbkpiojejmhfcaaGreatDoorRows.lean that lists a variable, with what it lists TIED to the program's text (the seventh form; the later family's looks); each row that meets fmt, with fmt's text TOLD by the authors' own Lean function (tested against real Go, not proved from fmt's source: count such statements apart). THE CARD IS WHAT COUNTS. Prove the row's statement (the work); the ties are given (YtbkpiojejmhfcaaGreatDoorTie.lean); close each card by the builder's one call (the guide's Derived/Test/ToyasCard.lean, 'card_holds'). Laid BY PROGRAM, IN A SANDBOX (cutbox-door.mjs). By AI agents, Wed Nov 11 2026. No macro, syntax, notation, axiom, sorry.
-/
import Derived.Test.YtbkpiojejmhfcaaGreatDoorRows
import GoSem.ClaimSeven
namespace Go.Proofs.YtbkpiojejmhfcaaGreatDoor
namespace Rows

/-- THE TIED CARD OF 'stillroomlaw18.CommitArgs'. -/
def commitArgsCard : Claim7 := { stood := { row := commitArgsRow, standIns := [], harness := (true, "54cc26d5fb3c067bab78bf2b36a9f5b3afb3b92667f2f774060fa1b4f59360db"), looks := true }, kinds := [], alts := [], laidByText := true, laidKinds := [.data, .data], laidTests := true, laidLooks := .later }
def CommitArgsCardSaid : Prop := Claim7.holds Tryz.pinned (.plain (OpenSpec.ofChange commitArgsSpec)) commitArgsCard

/-- THE TIED CARD OF 'stillroomlaw20.EngineNobody'. -/
def engineNobodyCard : Claim7 := { stood := { row := engineNobodyRow, standIns := [], harness := (true, "54cc26d5fb3c067bab78bf2b36a9f5b3afb3b92667f2f774060fa1b4f59360db"), looks := true }, kinds := [], alts := [], laidByText := true, laidKinds := [.data, .data], laidTests := true, laidLooks := .later }
def EngineNobodyCardSaid : Prop := Claim7.holds Tryz.pinned (.plain (OpenSpec.ofChange engineNobodySpec)) engineNobodyCard

/-- THE TIED CARD OF 'stillroomlaw20.EngineAborts'. -/
def engineAbortsCard : Claim7 := { stood := { row := engineAbortsRow, standIns := [], harness := (true, "54cc26d5fb3c067bab78bf2b36a9f5b3afb3b92667f2f774060fa1b4f59360db"), looks := true }, kinds := [], alts := [], laidByText := true, laidKinds := [.data, .data], laidTests := true, laidLooks := .later }
def EngineAbortsCardSaid : Prop := Claim7.holds Tryz.pinned (.plain (OpenSpec.ofChange engineAbortsSpec)) engineAbortsCard

/-- THE TIED CARD OF 'stillroomlaw21.ScriptSame'. -/
def scriptSameCard : Claim7 := { stood := { row := scriptSameRow, standIns := [], harness := (true, "54cc26d5fb3c067bab78bf2b36a9f5b3afb3b92667f2f774060fa1b4f59360db"), looks := true }, kinds := [], alts := [], laidByText := true, laidKinds := [.data, .data], laidTests := true, laidLooks := .later }
def ScriptSameCardSaid : Prop := Claim7.holds Tryz.pinned (.plain (OpenSpec.ofChange scriptSameSpec)) scriptSameCard

/-- THE SECOND FORM's CARD OF 'stillroomlaw18.CommitArgs'. -/
def commitArgsUptoCard : Claim7 := { stood := { row := commitArgsUptoRow, standIns := [], harness := (true, "54cc26d5fb3c067bab78bf2b36a9f5b3afb3b92667f2f774060fa1b4f59360db"), looks := true }, kinds := [], alts := [], laidByText := true, laidKinds := [.data, .data], laidTests := true, laidLooks := .later }
def CommitArgsUptoCardSaid : Prop := Claim7.holds Tryz.pinned (.plain (OpenSpec.upto commitArgsSpec)) commitArgsUptoCard

/-- THE SECOND FORM's CARD OF 'stillroomlaw20.EngineNobody'. -/
def engineNobodyUptoCard : Claim7 := { stood := { row := engineNobodyUptoRow, standIns := [], harness := (true, "54cc26d5fb3c067bab78bf2b36a9f5b3afb3b92667f2f774060fa1b4f59360db"), looks := true }, kinds := [], alts := [], laidByText := true, laidKinds := [.data, .data], laidTests := true, laidLooks := .later }
def EngineNobodyUptoCardSaid : Prop := Claim7.holds Tryz.pinned (.plain (OpenSpec.upto engineNobodySpec)) engineNobodyUptoCard

/-- THE SECOND FORM's CARD OF 'stillroomlaw20.EngineAborts'. -/
def engineAbortsUptoCard : Claim7 := { stood := { row := engineAbortsUptoRow, standIns := [], harness := (true, "54cc26d5fb3c067bab78bf2b36a9f5b3afb3b92667f2f774060fa1b4f59360db"), looks := true }, kinds := [], alts := [], laidByText := true, laidKinds := [.data, .data], laidTests := true, laidLooks := .later }
def EngineAbortsUptoCardSaid : Prop := Claim7.holds Tryz.pinned (.plain (OpenSpec.upto engineAbortsSpec)) engineAbortsUptoCard

/-- THE SECOND FORM's CARD OF 'stillroomlaw21.ScriptSame'. -/
def scriptSameUptoCard : Claim7 := { stood := { row := scriptSameUptoRow, standIns := [], harness := (true, "54cc26d5fb3c067bab78bf2b36a9f5b3afb3b92667f2f774060fa1b4f59360db"), looks := true }, kinds := [], alts := [], laidByText := true, laidKinds := [.data, .data], laidTests := true, laidLooks := .later }
def ScriptSameUptoCardSaid : Prop := Claim7.holds Tryz.pinned (.plain (OpenSpec.upto scriptSameSpec)) scriptSameUptoCard
end Rows
end Go.Proofs.YtbkpiojejmhfcaaGreatDoor

/-
  DERIVED. GIVEN WITH THE SEED: THE CARDS: each row of YtcelabojehaioaaGreatDoorRows.lean that lists a variable, with what it lists TIED to the program's text (the seventh form; the later family's looks); each row that meets fmt, with fmt's text TOLD by the authors' own Lean function (tested against real Go, not proved from fmt's source: count such statements apart). THE CARD IS WHAT COUNTS. Prove the row's statement (the work); the ties are given (YtcelabojehaioaaGreatDoorTie.lean); close each card by the builder's one call (the guide's Derived/Test/ToyasCard.lean, 'card_holds'). Laid BY PROGRAM, IN A SANDBOX (cutbox-door.mjs). By AI agents, Wed Nov 11 2026. No macro, syntax, notation, axiom, sorry.
-/
import Derived.Test.YtcelabojehaioaaGreatDoorRows
import GoSem.ClaimSeven
namespace Go.Proofs.YtcelabojehaioaaGreatDoor
namespace Rows

/-- THE TIED CARD OF 'stillroomlaw18.CommitArgs'. -/
def commitArgsCard : Claim7 := { stood := { row := commitArgsRow, standIns := [], harness := (true, "ab496e204464c32a42f4752d2a494bcbf886bf74d2cb9b7afa84f0ab224d2fcf"), looks := true }, kinds := [], alts := [], laidByText := true, laidKinds := [.data, .data], laidTests := true, laidLooks := .later }
def CommitArgsCardSaid : Prop := Claim7.holds Tryz.pinned (.plain (OpenSpec.ofChange commitArgsSpec)) commitArgsCard

/-- THE TIED CARD OF 'stillroomlaw20.EngineNobody'. -/
def engineNobodyCard : Claim7 := { stood := { row := engineNobodyRow, standIns := [], harness := (true, "ab496e204464c32a42f4752d2a494bcbf886bf74d2cb9b7afa84f0ab224d2fcf"), looks := true }, kinds := [], alts := [], laidByText := true, laidKinds := [.data, .data], laidTests := true, laidLooks := .later }
def EngineNobodyCardSaid : Prop := Claim7.holds Tryz.pinned (.plain (OpenSpec.ofChange engineNobodySpec)) engineNobodyCard

/-- THE TIED CARD OF 'stillroomlaw20.EngineAborts'. -/
def engineAbortsCard : Claim7 := { stood := { row := engineAbortsRow, standIns := [], harness := (true, "ab496e204464c32a42f4752d2a494bcbf886bf74d2cb9b7afa84f0ab224d2fcf"), looks := true }, kinds := [], alts := [], laidByText := true, laidKinds := [.data, .data], laidTests := true, laidLooks := .later }
def EngineAbortsCardSaid : Prop := Claim7.holds Tryz.pinned (.plain (OpenSpec.ofChange engineAbortsSpec)) engineAbortsCard

/-- THE TIED CARD OF 'stillroomlaw21.ScriptDecodes'. -/
def scriptDecodesCard : Claim7 := { stood := { row := scriptDecodesRow, standIns := [], harness := (true, "ab496e204464c32a42f4752d2a494bcbf886bf74d2cb9b7afa84f0ab224d2fcf"), looks := true }, kinds := [], alts := [], laidByText := true, laidKinds := [.data, .data], laidTests := true, laidLooks := .later }
def ScriptDecodesCardSaid : Prop := Claim7.holds Tryz.pinned (.plain (OpenSpec.ofChange scriptDecodesSpec)) scriptDecodesCard

/-- THE TIED CARD OF 'stillroomlaw21.ScriptSame'. -/
def scriptSameCard : Claim7 := { stood := { row := scriptSameRow, standIns := [], harness := (true, "ab496e204464c32a42f4752d2a494bcbf886bf74d2cb9b7afa84f0ab224d2fcf"), looks := true }, kinds := [], alts := [], laidByText := true, laidKinds := [.data, .data], laidTests := true, laidLooks := .later }
def ScriptSameCardSaid : Prop := Claim7.holds Tryz.pinned (.plain (OpenSpec.ofChange scriptSameSpec)) scriptSameCard

/-- THE TIED CARD OF 'stillroomlaw21.ScriptLetters'. -/
def scriptLettersCard : Claim7 := { stood := { row := scriptLettersRow, standIns := [], harness := (true, "ab496e204464c32a42f4752d2a494bcbf886bf74d2cb9b7afa84f0ab224d2fcf"), looks := true }, kinds := [], alts := [], laidByText := true, laidKinds := [.data, .data], laidTests := true, laidLooks := .later }
def ScriptLettersCardSaid : Prop := Claim7.holds Tryz.pinned (.plain (OpenSpec.ofChange scriptLettersSpec)) scriptLettersCard

/-- THE TIED CARD OF 'stillroomlaw21.ScriptCuts'. -/
def scriptCutsCard : Claim7 := { stood := { row := scriptCutsRow, standIns := [], harness := (true, "ab496e204464c32a42f4752d2a494bcbf886bf74d2cb9b7afa84f0ab224d2fcf"), looks := true }, kinds := [], alts := [], laidByText := true, laidKinds := [.data, .data], laidTests := true, laidLooks := .later }
def ScriptCutsCardSaid : Prop := Claim7.holds Tryz.pinned (.plain (OpenSpec.ofChange scriptCutsSpec)) scriptCutsCard

/-- THE SECOND FORM's CARD OF 'stillroomlaw18.CommitArgs'. -/
def commitArgsUptoCard : Claim7 := { stood := { row := commitArgsUptoRow, standIns := [], harness := (true, "ab496e204464c32a42f4752d2a494bcbf886bf74d2cb9b7afa84f0ab224d2fcf"), looks := true }, kinds := [], alts := [], laidByText := true, laidKinds := [.data, .data], laidTests := true, laidLooks := .later }
def CommitArgsUptoCardSaid : Prop := Claim7.holds Tryz.pinned (.plain (OpenSpec.upto commitArgsSpec)) commitArgsUptoCard

/-- THE SECOND FORM's CARD OF 'stillroomlaw20.EngineNobody'. -/
def engineNobodyUptoCard : Claim7 := { stood := { row := engineNobodyUptoRow, standIns := [], harness := (true, "ab496e204464c32a42f4752d2a494bcbf886bf74d2cb9b7afa84f0ab224d2fcf"), looks := true }, kinds := [], alts := [], laidByText := true, laidKinds := [.data, .data], laidTests := true, laidLooks := .later }
def EngineNobodyUptoCardSaid : Prop := Claim7.holds Tryz.pinned (.plain (OpenSpec.upto engineNobodySpec)) engineNobodyUptoCard

/-- THE SECOND FORM's CARD OF 'stillroomlaw20.EngineAborts'. -/
def engineAbortsUptoCard : Claim7 := { stood := { row := engineAbortsUptoRow, standIns := [], harness := (true, "ab496e204464c32a42f4752d2a494bcbf886bf74d2cb9b7afa84f0ab224d2fcf"), looks := true }, kinds := [], alts := [], laidByText := true, laidKinds := [.data, .data], laidTests := true, laidLooks := .later }
def EngineAbortsUptoCardSaid : Prop := Claim7.holds Tryz.pinned (.plain (OpenSpec.upto engineAbortsSpec)) engineAbortsUptoCard

/-- THE SECOND FORM's CARD OF 'stillroomlaw21.ScriptDecodes'. -/
def scriptDecodesUptoCard : Claim7 := { stood := { row := scriptDecodesUptoRow, standIns := [], harness := (true, "ab496e204464c32a42f4752d2a494bcbf886bf74d2cb9b7afa84f0ab224d2fcf"), looks := true }, kinds := [], alts := [], laidByText := true, laidKinds := [.data, .data], laidTests := true, laidLooks := .later }
def ScriptDecodesUptoCardSaid : Prop := Claim7.holds Tryz.pinned (.plain (OpenSpec.upto scriptDecodesSpec)) scriptDecodesUptoCard

/-- THE SECOND FORM's CARD OF 'stillroomlaw21.ScriptSame'. -/
def scriptSameUptoCard : Claim7 := { stood := { row := scriptSameUptoRow, standIns := [], harness := (true, "ab496e204464c32a42f4752d2a494bcbf886bf74d2cb9b7afa84f0ab224d2fcf"), looks := true }, kinds := [], alts := [], laidByText := true, laidKinds := [.data, .data], laidTests := true, laidLooks := .later }
def ScriptSameUptoCardSaid : Prop := Claim7.holds Tryz.pinned (.plain (OpenSpec.upto scriptSameSpec)) scriptSameUptoCard

/-- THE SECOND FORM's CARD OF 'stillroomlaw21.ScriptLetters'. -/
def scriptLettersUptoCard : Claim7 := { stood := { row := scriptLettersUptoRow, standIns := [], harness := (true, "ab496e204464c32a42f4752d2a494bcbf886bf74d2cb9b7afa84f0ab224d2fcf"), looks := true }, kinds := [], alts := [], laidByText := true, laidKinds := [.data, .data], laidTests := true, laidLooks := .later }
def ScriptLettersUptoCardSaid : Prop := Claim7.holds Tryz.pinned (.plain (OpenSpec.upto scriptLettersSpec)) scriptLettersUptoCard

/-- THE SECOND FORM's CARD OF 'stillroomlaw21.ScriptCuts'. -/
def scriptCutsUptoCard : Claim7 := { stood := { row := scriptCutsUptoRow, standIns := [], harness := (true, "ab496e204464c32a42f4752d2a494bcbf886bf74d2cb9b7afa84f0ab224d2fcf"), looks := true }, kinds := [], alts := [], laidByText := true, laidKinds := [.data, .data], laidTests := true, laidLooks := .later }
def ScriptCutsUptoCardSaid : Prop := Claim7.holds Tryz.pinned (.plain (OpenSpec.upto scriptCutsSpec)) scriptCutsUptoCard
end Rows
end Go.Proofs.YtcelabojehaioaaGreatDoor

/-
  DERIVED. GIVEN WITH THE SEED: THE CARDS: each row of YtgdomldfjiobfaaGreatDoorRows.lean that lists a variable, with what it lists TIED to the program's text (the seventh form; the later family's looks); each row that meets fmt, with fmt's text TOLD by the authors' own Lean function (tested against real Go, not proved from fmt's source: count such statements apart). THE CARD IS WHAT COUNTS. Prove the row's statement (the work); the ties are given (YtgdomldfjiobfaaGreatDoorTie.lean); close each card by the builder's one call (the guide's Derived/Test/ToyasCard.lean, 'card_holds'). Laid BY PROGRAM, IN A SANDBOX (cutbox-door.mjs). By AI agents, Wed Nov 11 2026. No macro, syntax, notation, axiom, sorry.
-/
import Derived.Test.YtgdomldfjiobfaaGreatDoorRows
import GoSem.ClaimSeven
namespace Go.Proofs.YtgdomldfjiobfaaGreatDoor
namespace Rows

/-- THE TIED CARD OF 'stillroomlaw11.WalkMerges'. -/
def walkMergesCard : Claim7 := { stood := { row := walkMergesRow, standIns := [], harness := (true, "cab6359c9e275da5238e1e8db88c4b1c5e95a2b486756894647fef3e34fff1ab"), looks := true }, kinds := [], alts := [], laidByText := true, laidKinds := [.data, .data], laidTests := true, laidLooks := .later }
def WalkMergesCardSaid : Prop := Claim7.holds Tryz.pinned (.plain (OpenSpec.ofChange walkMergesSpec)) walkMergesCard

/-- THE TIED CARD OF 'stillroomlaw11.WalkMerge'. -/
def walkMergeCard : Claim7 := { stood := { row := walkMergeRow, standIns := [], harness := (true, "cab6359c9e275da5238e1e8db88c4b1c5e95a2b486756894647fef3e34fff1ab"), looks := true }, kinds := [], alts := [], laidByText := true, laidKinds := [.data, .data], laidTests := true, laidLooks := .later }
def WalkMergeCardSaid : Prop := Claim7.holds Tryz.pinned (.plain (OpenSpec.ofChange walkMergeSpec)) walkMergeCard

/-- THE TIED CARD OF 'stillroomlaw10.IndexNobody'. -/
def indexNobodyCard : Claim7 := { stood := { row := indexNobodyRow, standIns := [], harness := (true, "cab6359c9e275da5238e1e8db88c4b1c5e95a2b486756894647fef3e34fff1ab"), looks := true }, kinds := [], alts := [], laidByText := true, laidKinds := [.data, .data], laidTests := true, laidLooks := .later }
def IndexNobodyCardSaid : Prop := Claim7.holds Tryz.pinned (.plain (OpenSpec.ofChange indexNobodySpec)) indexNobodyCard

/-- THE TIED CARD OF 'stillroomlaw20.EngineNobody'. -/
def engineNobodyCard : Claim7 := { stood := { row := engineNobodyRow, standIns := [], harness := (true, "cab6359c9e275da5238e1e8db88c4b1c5e95a2b486756894647fef3e34fff1ab"), looks := true }, kinds := [], alts := [], laidByText := true, laidKinds := [.data, .data], laidTests := true, laidLooks := .later }
def EngineNobodyCardSaid : Prop := Claim7.holds Tryz.pinned (.plain (OpenSpec.ofChange engineNobodySpec)) engineNobodyCard

/-- THE TIED CARD OF 'stillroomlaw21.ScriptDecodes'. -/
def scriptDecodesCard : Claim7 := { stood := { row := scriptDecodesRow, standIns := [], harness := (true, "cab6359c9e275da5238e1e8db88c4b1c5e95a2b486756894647fef3e34fff1ab"), looks := true }, kinds := [], alts := [], laidByText := true, laidKinds := [.data, .data], laidTests := true, laidLooks := .later }
def ScriptDecodesCardSaid : Prop := Claim7.holds Tryz.pinned (.plain (OpenSpec.ofChange scriptDecodesSpec)) scriptDecodesCard

/-- THE TIED CARD OF 'stillroomlaw21.ScriptSame'. -/
def scriptSameCard : Claim7 := { stood := { row := scriptSameRow, standIns := [], harness := (true, "cab6359c9e275da5238e1e8db88c4b1c5e95a2b486756894647fef3e34fff1ab"), looks := true }, kinds := [], alts := [], laidByText := true, laidKinds := [.data, .data], laidTests := true, laidLooks := .later }
def ScriptSameCardSaid : Prop := Claim7.holds Tryz.pinned (.plain (OpenSpec.ofChange scriptSameSpec)) scriptSameCard

/-- THE TIED CARD OF 'stillroomlaw21.ScriptLetters'. -/
def scriptLettersCard : Claim7 := { stood := { row := scriptLettersRow, standIns := [], harness := (true, "cab6359c9e275da5238e1e8db88c4b1c5e95a2b486756894647fef3e34fff1ab"), looks := true }, kinds := [], alts := [], laidByText := true, laidKinds := [.data, .data], laidTests := true, laidLooks := .later }
def ScriptLettersCardSaid : Prop := Claim7.holds Tryz.pinned (.plain (OpenSpec.ofChange scriptLettersSpec)) scriptLettersCard

/-- THE TIED CARD OF 'stillroomlaw21.ScriptCuts'. -/
def scriptCutsCard : Claim7 := { stood := { row := scriptCutsRow, standIns := [], harness := (true, "cab6359c9e275da5238e1e8db88c4b1c5e95a2b486756894647fef3e34fff1ab"), looks := true }, kinds := [], alts := [], laidByText := true, laidKinds := [.data, .data], laidTests := true, laidLooks := .later }
def ScriptCutsCardSaid : Prop := Claim7.holds Tryz.pinned (.plain (OpenSpec.ofChange scriptCutsSpec)) scriptCutsCard

/-- THE SECOND FORM's CARD OF 'stillroomlaw11.WalkMerges'. -/
def walkMergesUptoCard : Claim7 := { stood := { row := walkMergesUptoRow, standIns := [], harness := (true, "cab6359c9e275da5238e1e8db88c4b1c5e95a2b486756894647fef3e34fff1ab"), looks := true }, kinds := [], alts := [], laidByText := true, laidKinds := [.data, .data], laidTests := true, laidLooks := .later }
def WalkMergesUptoCardSaid : Prop := Claim7.holds Tryz.pinned (.plain (OpenSpec.upto walkMergesSpec)) walkMergesUptoCard

/-- THE SECOND FORM's CARD OF 'stillroomlaw11.WalkMerge'. -/
def walkMergeUptoCard : Claim7 := { stood := { row := walkMergeUptoRow, standIns := [], harness := (true, "cab6359c9e275da5238e1e8db88c4b1c5e95a2b486756894647fef3e34fff1ab"), looks := true }, kinds := [], alts := [], laidByText := true, laidKinds := [.data, .data], laidTests := true, laidLooks := .later }
def WalkMergeUptoCardSaid : Prop := Claim7.holds Tryz.pinned (.plain (OpenSpec.upto walkMergeSpec)) walkMergeUptoCard

/-- THE SECOND FORM's CARD OF 'stillroomlaw10.IndexNobody'. -/
def indexNobodyUptoCard : Claim7 := { stood := { row := indexNobodyUptoRow, standIns := [], harness := (true, "cab6359c9e275da5238e1e8db88c4b1c5e95a2b486756894647fef3e34fff1ab"), looks := true }, kinds := [], alts := [], laidByText := true, laidKinds := [.data, .data], laidTests := true, laidLooks := .later }
def IndexNobodyUptoCardSaid : Prop := Claim7.holds Tryz.pinned (.plain (OpenSpec.upto indexNobodySpec)) indexNobodyUptoCard

/-- THE SECOND FORM's CARD OF 'stillroomlaw20.EngineNobody'. -/
def engineNobodyUptoCard : Claim7 := { stood := { row := engineNobodyUptoRow, standIns := [], harness := (true, "cab6359c9e275da5238e1e8db88c4b1c5e95a2b486756894647fef3e34fff1ab"), looks := true }, kinds := [], alts := [], laidByText := true, laidKinds := [.data, .data], laidTests := true, laidLooks := .later }
def EngineNobodyUptoCardSaid : Prop := Claim7.holds Tryz.pinned (.plain (OpenSpec.upto engineNobodySpec)) engineNobodyUptoCard

/-- THE SECOND FORM's CARD OF 'stillroomlaw21.ScriptDecodes'. -/
def scriptDecodesUptoCard : Claim7 := { stood := { row := scriptDecodesUptoRow, standIns := [], harness := (true, "cab6359c9e275da5238e1e8db88c4b1c5e95a2b486756894647fef3e34fff1ab"), looks := true }, kinds := [], alts := [], laidByText := true, laidKinds := [.data, .data], laidTests := true, laidLooks := .later }
def ScriptDecodesUptoCardSaid : Prop := Claim7.holds Tryz.pinned (.plain (OpenSpec.upto scriptDecodesSpec)) scriptDecodesUptoCard

/-- THE SECOND FORM's CARD OF 'stillroomlaw21.ScriptSame'. -/
def scriptSameUptoCard : Claim7 := { stood := { row := scriptSameUptoRow, standIns := [], harness := (true, "cab6359c9e275da5238e1e8db88c4b1c5e95a2b486756894647fef3e34fff1ab"), looks := true }, kinds := [], alts := [], laidByText := true, laidKinds := [.data, .data], laidTests := true, laidLooks := .later }
def ScriptSameUptoCardSaid : Prop := Claim7.holds Tryz.pinned (.plain (OpenSpec.upto scriptSameSpec)) scriptSameUptoCard

/-- THE SECOND FORM's CARD OF 'stillroomlaw21.ScriptLetters'. -/
def scriptLettersUptoCard : Claim7 := { stood := { row := scriptLettersUptoRow, standIns := [], harness := (true, "cab6359c9e275da5238e1e8db88c4b1c5e95a2b486756894647fef3e34fff1ab"), looks := true }, kinds := [], alts := [], laidByText := true, laidKinds := [.data, .data], laidTests := true, laidLooks := .later }
def ScriptLettersUptoCardSaid : Prop := Claim7.holds Tryz.pinned (.plain (OpenSpec.upto scriptLettersSpec)) scriptLettersUptoCard

/-- THE SECOND FORM's CARD OF 'stillroomlaw21.ScriptCuts'. -/
def scriptCutsUptoCard : Claim7 := { stood := { row := scriptCutsUptoRow, standIns := [], harness := (true, "cab6359c9e275da5238e1e8db88c4b1c5e95a2b486756894647fef3e34fff1ab"), looks := true }, kinds := [], alts := [], laidByText := true, laidKinds := [.data, .data], laidTests := true, laidLooks := .later }
def ScriptCutsUptoCardSaid : Prop := Claim7.holds Tryz.pinned (.plain (OpenSpec.upto scriptCutsSpec)) scriptCutsUptoCard
end Rows
end Go.Proofs.YtgdomldfjiobfaaGreatDoor

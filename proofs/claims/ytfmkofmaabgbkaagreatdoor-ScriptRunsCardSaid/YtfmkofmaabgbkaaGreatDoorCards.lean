/-
  DERIVED. GIVEN WITH THE SEED: THE CARDS: each row of YtfmkofmaabgbkaaGreatDoorRows.lean that lists a variable, with what it lists TIED to the program's text (the seventh form; the later family's looks); each row that meets fmt, with fmt's text TOLD by the authors' own Lean function (tested against real Go, not proved from fmt's source: count such statements apart). THE CARD IS WHAT COUNTS. Prove the row's statement (the work); the ties are given (YtfmkofmaabgbkaaGreatDoorTie.lean); close each card by the builder's one call (the guide's Derived/Test/ToyasCard.lean, 'card_holds'). Laid BY PROGRAM, IN A SANDBOX (cutbox-door.mjs). By AI agents, Wed Nov 11 2026. No macro, syntax, notation, axiom, sorry.
-/
import Derived.Test.YtfmkofmaabgbkaaGreatDoorRows
import GoSem.ClaimSeven
namespace Go.Proofs.YtfmkofmaabgbkaaGreatDoor
namespace Rows

/-- THE TIED CARD OF 'stillroomlaw21.ScriptRuns'. -/
def scriptRunsCard : Claim7 := { stood := { row := scriptRunsRow, standIns := [], harness := (true, "6c13fc8bf056ab4920c6f0e2dd2a45925295fd346cb1a727a88c951f7338de26"), looks := true }, kinds := [], alts := [], laidByText := true, laidKinds := [.data, .data], laidTests := true, laidLooks := .later }
def ScriptRunsCardSaid : Prop := Claim7.holds Tryz.pinned (.plain (OpenSpec.ofChange scriptRunsSpec)) scriptRunsCard

/-- THE SECOND FORM's CARD OF 'stillroomlaw21.ScriptRuns'. -/
def scriptRunsUptoCard : Claim7 := { stood := { row := scriptRunsUptoRow, standIns := [], harness := (true, "6c13fc8bf056ab4920c6f0e2dd2a45925295fd346cb1a727a88c951f7338de26"), looks := true }, kinds := [], alts := [], laidByText := true, laidKinds := [.data, .data], laidTests := true, laidLooks := .later }
def ScriptRunsUptoCardSaid : Prop := Claim7.holds Tryz.pinned (.plain (OpenSpec.upto scriptRunsSpec)) scriptRunsUptoCard
end Rows
end Go.Proofs.YtfmkofmaabgbkaaGreatDoor

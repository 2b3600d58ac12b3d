/-
  DERIVED. GIVEN WITH THE SEED: THE CARDS: each row of YtekhjimghoibfaaGreatDoorRows.lean that lists a variable, with what it lists TIED to the program's text (the seventh form; the later family's looks); each row that meets fmt, with fmt's text TOLD by the authors' own Lean function (tested against real Go, not proved from fmt's source: count such statements apart). THE CARD IS WHAT COUNTS. Prove the row's statement (the work); the ties are given (YtekhjimghoibfaaGreatDoorTie.lean); close each card by the builder's one call (the guide's Derived/Test/ToyasCard.lean, 'card_holds'). Laid BY PROGRAM, IN A SANDBOX (cutbox-door.mjs). By AI agents, Wed Nov 11 2026. No macro, syntax, notation, axiom, sorry.
-/
import Derived.Test.YtekhjimghoibfaaGreatDoorRows
import GoSem.ClaimSeven
namespace Go.Proofs.YtekhjimghoibfaaGreatDoor
namespace Rows

/-- THE TIED CARD OF 'stillroomlaw19.MendAgain'. -/
def mendAgainCard : Claim7 := { stood := { row := mendAgainRow, standIns := [], harness := (true, "9323e4a832e9afe5a5a8430c4b41ea31f50fff68abbd03521b9cbdbe0ec311fa"), looks := true }, kinds := [], alts := [], laidByText := true, laidKinds := [.data, .data], laidTests := true, laidLooks := .later }
def MendAgainCardSaid : Prop := Claim7.holds Tryz.pinned (.plain (OpenSpec.ofChange mendAgainSpec)) mendAgainCard

/-- THE SECOND FORM's CARD OF 'stillroomlaw19.MendAgain'. -/
def mendAgainUptoCard : Claim7 := { stood := { row := mendAgainUptoRow, standIns := [], harness := (true, "9323e4a832e9afe5a5a8430c4b41ea31f50fff68abbd03521b9cbdbe0ec311fa"), looks := true }, kinds := [], alts := [], laidByText := true, laidKinds := [.data, .data], laidTests := true, laidLooks := .later }
def MendAgainUptoCardSaid : Prop := Claim7.holds Tryz.pinned (.plain (OpenSpec.upto mendAgainSpec)) mendAgainUptoCard
end Rows
end Go.Proofs.YtekhjimghoibfaaGreatDoor

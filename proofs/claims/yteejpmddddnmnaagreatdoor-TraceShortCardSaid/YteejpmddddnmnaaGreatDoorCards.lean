/-
  DERIVED. GIVEN WITH THE SEED: THE CARDS: each row of YteejpmddddnmnaaGreatDoorRows.lean that lists a variable, with what it lists TIED to the program's text (the seventh form; the later family's looks); each row that meets fmt, with fmt's text TOLD by the authors' own Lean function (tested against real Go, not proved from fmt's source: count such statements apart). THE CARD IS WHAT COUNTS. Prove the row's statement (the work); the ties are given (YteejpmddddnmnaaGreatDoorTie.lean); close each card by the builder's one call (the guide's Derived/Test/ToyasCard.lean, 'card_holds'). Laid BY PROGRAM, IN A SANDBOX (cutbox-door.mjs). By AI agents, Wed Nov 11 2026. No macro, syntax, notation, axiom, sorry.
-/
import Derived.Test.YteejpmddddnmnaaGreatDoorRows
import GoSem.ClaimSeven
namespace Go.Proofs.YteejpmddddnmnaaGreatDoor
namespace Rows

/-- THE TIED CARD OF 'stillroomlaw22.TraceShort'. -/
def traceShortCard : Claim7 := { stood := { row := traceShortRow, standIns := [], harness := (true, "172d666837666b0be3407de8beead643d99afec479d9112ebc5106ded8b285e7"), looks := true }, kinds := [], alts := [], laidByText := true, laidKinds := [.data, .data], laidTests := true, laidLooks := .later }
def TraceShortCardSaid : Prop := Claim7.holds Tryz.pinned (.plain (OpenSpec.ofChange traceShortSpec)) traceShortCard

/-- THE SECOND FORM's CARD OF 'stillroomlaw22.TraceShort'. -/
def traceShortUptoCard : Claim7 := { stood := { row := traceShortUptoRow, standIns := [], harness := (true, "172d666837666b0be3407de8beead643d99afec479d9112ebc5106ded8b285e7"), looks := true }, kinds := [], alts := [], laidByText := true, laidKinds := [.data, .data], laidTests := true, laidLooks := .later }
def TraceShortUptoCardSaid : Prop := Claim7.holds Tryz.pinned (.plain (OpenSpec.upto traceShortSpec)) traceShortUptoCard
end Rows
end Go.Proofs.YteejpmddddnmnaaGreatDoor

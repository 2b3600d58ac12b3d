/-
  No cell of these rows narrows 'for every input' (looked for: loops, veiled, ifaces, maps, wideKeys, modest, calm, conditions, laid).
  DERIVED. THE GIVEN ROWS OF THIS SEAT. 11 by the template 'for every input the law returns true; each argument reads behind the call as it read before'; 0 by the template 'total and deterministic' (their statements: YtaamkdejediccaaTotals.lean).
  GIVEN WITH THE SEED: the statements are not yours to turn. If you find one false, say at which input.
  Laid BY PROGRAM, IN A SANDBOX (cutbox-rows.mjs): the forced cells as the released guide's own fill.sh prints them over the translation 136f6ae43e7a2bca… (all of the seat's roots in one cut). By AI agents, Wed Nov 11 2026. No macro, syntax, notation, axiom, sorry.
-/
import Derived.Test.YtaamkdejediccaaChecked
import GoSem.Claim
import GoSem.ClaimJoined
import GoSem.ClaimMapViews
import Derived.JoinedTies
import Derived.KernelRfl
namespace Go.Proofs.Ytaamkdejediccaa
/- THE CELL 'sum', in the pinned program and in every row, IS THE sha256 OF THE DUMP (.gsa) THAT YtaamkdejediccaaProg.lean LOADS. Nothing in Lean hashes anything: it is a label: what it is worth is what the hold of that sum in a sandbox is worth. -/
noncomputable def Try.pinned : Pinned := { name := "ytaamkdejediccaa", sum := "136f6ae43e7a2bca221d33c158f8f1740cf636f13763a8be9d94e9f1410b41e8", checked := Try.checked }
namespace Rows
def none {H : Type} : Left H := { results := [], args := [] }

/-- 'stillroomlaw08.NibTells': WHATEVER THE INPUT: true; the input reads as it did. -/
def nibTellsSpec : ChangeSpec := { name := "nibTells", fn := fun _ => fun
  | [d1, d2, d3] => { results := [.lit (.bool true)], args := [d1, d2, d3] }
  | _ => none }
def nibTellsRow : OpenClaim := { program := "ytaamkdejediccaa", sum := "136f6ae43e7a2bca221d33c158f8f1740cf636f13763a8be9d94e9f1410b41e8", func := "stillroom/stillroomlaw08.NibTells", spec := "nibTells", inPlace := ["internal/bytealg.Compare"], apart := false }
def NibTellsSaid : Prop := nibTellsRow.holds Try.pinned (OpenSpec.ofChange nibTellsSpec)

/-- ITS FALSE NEIGHBOUR: 'it returns false'. Refute it at one input. -/
def nibTellsWrong : ChangeSpec := { name := "nibTells", fn := fun _ => fun
  | [d1, d2, d3] => { results := [.lit (.bool false)], args := [d1, d2, d3] }
  | _ => none }
def NibTellsWrongFalsely : Prop := nibTellsRow.holds Try.pinned (OpenSpec.ofChange nibTellsWrong)

/-- 'stillroomlaw08.NibPacks': WHATEVER THE INPUT: true; the input reads as it did. -/
def nibPacksSpec : ChangeSpec := { name := "nibPacks", fn := fun _ => fun
  | [d1, d2] => { results := [.lit (.bool true)], args := [d1, d2] }
  | _ => none }
def nibPacksRow : OpenClaim := { program := "ytaamkdejediccaa", sum := "136f6ae43e7a2bca221d33c158f8f1740cf636f13763a8be9d94e9f1410b41e8", func := "stillroom/stillroomlaw08.NibPacks", spec := "nibPacks", inPlace := ["internal/bytealg.Compare"], apart := false }
def NibPacksSaid : Prop := nibPacksRow.holds Try.pinned (OpenSpec.ofChange nibPacksSpec)

/-- ITS FALSE NEIGHBOUR: 'it returns false'. Refute it at one input. -/
def nibPacksWrong : ChangeSpec := { name := "nibPacks", fn := fun _ => fun
  | [d1, d2] => { results := [.lit (.bool false)], args := [d1, d2] }
  | _ => none }
def NibPacksWrongFalsely : Prop := nibPacksRow.holds Try.pinned (OpenSpec.ofChange nibPacksWrong)

/-- 'stillroomlaw08.NibBack': WHATEVER THE INPUT: true; the input reads as it did. -/
def nibBackSpec : ChangeSpec := { name := "nibBack", fn := fun _ => fun
  | [d1, d2, d3] => { results := [.lit (.bool true)], args := [d1, d2, d3] }
  | _ => none }
def nibBackRow : OpenClaim := { program := "ytaamkdejediccaa", sum := "136f6ae43e7a2bca221d33c158f8f1740cf636f13763a8be9d94e9f1410b41e8", func := "stillroom/stillroomlaw08.NibBack", spec := "nibBack", inPlace := ["internal/bytealg.Compare"], apart := false }
def NibBackSaid : Prop := nibBackRow.holds Try.pinned (OpenSpec.ofChange nibBackSpec)

/-- ITS FALSE NEIGHBOUR: 'it returns false'. Refute it at one input. -/
def nibBackWrong : ChangeSpec := { name := "nibBack", fn := fun _ => fun
  | [d1, d2, d3] => { results := [.lit (.bool false)], args := [d1, d2, d3] }
  | _ => none }
def NibBackWrongFalsely : Prop := nibBackRow.holds Try.pinned (OpenSpec.ofChange nibBackWrong)

/-- 'stillroomlaw08.NibOrder': WHATEVER THE INPUT: true; the input reads as it did. -/
def nibOrderSpec : ChangeSpec := { name := "nibOrder", fn := fun _ => fun
  | [d1, d2] => { results := [.lit (.bool true)], args := [d1, d2] }
  | _ => none }
def nibOrderRow : OpenClaim := { program := "ytaamkdejediccaa", sum := "136f6ae43e7a2bca221d33c158f8f1740cf636f13763a8be9d94e9f1410b41e8", func := "stillroom/stillroomlaw08.NibOrder", spec := "nibOrder", inPlace := ["internal/bytealg.Compare"], apart := false }
def NibOrderSaid : Prop := nibOrderRow.holds Try.pinned (OpenSpec.ofChange nibOrderSpec)

/-- ITS FALSE NEIGHBOUR: 'it returns false'. Refute it at one input. -/
def nibOrderWrong : ChangeSpec := { name := "nibOrder", fn := fun _ => fun
  | [d1, d2] => { results := [.lit (.bool false)], args := [d1, d2] }
  | _ => none }
def NibOrderWrongFalsely : Prop := nibOrderRow.holds Try.pinned (OpenSpec.ofChange nibOrderWrong)

/-- 'stillroomlaw08.NibCommon': WHATEVER THE INPUT: true; the input reads as it did. -/
def nibCommonSpec : ChangeSpec := { name := "nibCommon", fn := fun _ => fun
  | [d1, d2] => { results := [.lit (.bool true)], args := [d1, d2] }
  | _ => none }
def nibCommonRow : OpenClaim := { program := "ytaamkdejediccaa", sum := "136f6ae43e7a2bca221d33c158f8f1740cf636f13763a8be9d94e9f1410b41e8", func := "stillroom/stillroomlaw08.NibCommon", spec := "nibCommon", inPlace := ["internal/bytealg.Compare"], apart := false }
def NibCommonSaid : Prop := nibCommonRow.holds Try.pinned (OpenSpec.ofChange nibCommonSpec)

/-- ITS FALSE NEIGHBOUR: 'it returns false'. Refute it at one input. -/
def nibCommonWrong : ChangeSpec := { name := "nibCommon", fn := fun _ => fun
  | [d1, d2] => { results := [.lit (.bool false)], args := [d1, d2] }
  | _ => none }
def NibCommonWrongFalsely : Prop := nibCommonRow.holds Try.pinned (OpenSpec.ofChange nibCommonWrong)

/-- 'stillroomlaw08.NibJoins': WHATEVER THE INPUT: true; the input reads as it did. -/
def nibJoinsSpec : ChangeSpec := { name := "nibJoins", fn := fun _ => fun
  | [d1, d2] => { results := [.lit (.bool true)], args := [d1, d2] }
  | _ => none }
def nibJoinsRow : OpenClaim := { program := "ytaamkdejediccaa", sum := "136f6ae43e7a2bca221d33c158f8f1740cf636f13763a8be9d94e9f1410b41e8", func := "stillroom/stillroomlaw08.NibJoins", spec := "nibJoins", inPlace := ["internal/bytealg.Compare"], apart := false }
def NibJoinsSaid : Prop := nibJoinsRow.holds Try.pinned (OpenSpec.ofChange nibJoinsSpec)

/-- ITS FALSE NEIGHBOUR: 'it returns false'. Refute it at one input. -/
def nibJoinsWrong : ChangeSpec := { name := "nibJoins", fn := fun _ => fun
  | [d1, d2] => { results := [.lit (.bool false)], args := [d1, d2] }
  | _ => none }
def NibJoinsWrongFalsely : Prop := nibJoinsRow.holds Try.pinned (OpenSpec.ofChange nibJoinsWrong)

/-- 'stillroomlaw09.NodeBack': WHATEVER THE INPUT: true; the input reads as it did. -/
def nodeBackSpec : ChangeSpec := { name := "nodeBack", fn := fun _ => fun
  | [d1, d2] => { results := [.lit (.bool true)], args := [d1, d2] }
  | _ => none }
def nodeBackRow : OpenClaim := { program := "ytaamkdejediccaa", sum := "136f6ae43e7a2bca221d33c158f8f1740cf636f13763a8be9d94e9f1410b41e8", func := "stillroom/stillroomlaw09.NodeBack", spec := "nodeBack", apart := false }
def NodeBackSaid : Prop := nodeBackRow.holds Try.pinned (OpenSpec.ofChange nodeBackSpec)

/-- ITS FALSE NEIGHBOUR: 'it returns false'. Refute it at one input. -/
def nodeBackWrong : ChangeSpec := { name := "nodeBack", fn := fun _ => fun
  | [d1, d2] => { results := [.lit (.bool false)], args := [d1, d2] }
  | _ => none }
def NodeBackWrongFalsely : Prop := nodeBackRow.holds Try.pinned (OpenSpec.ofChange nodeBackWrong)

/-- 'stillroomlaw09.NodeSizes': WHATEVER THE INPUT: true; the input reads as it did. -/
def nodeSizesSpec : ChangeSpec := { name := "nodeSizes", fn := fun _ => fun
  | [d] => { results := [.lit (.bool true)], args := [d] }
  | _ => none }
def nodeSizesRow : OpenClaim := { program := "ytaamkdejediccaa", sum := "136f6ae43e7a2bca221d33c158f8f1740cf636f13763a8be9d94e9f1410b41e8", func := "stillroom/stillroomlaw09.NodeSizes", spec := "nodeSizes", apart := false }
def NodeSizesSaid : Prop := nodeSizesRow.holds Try.pinned (OpenSpec.ofChange nodeSizesSpec)

/-- ITS FALSE NEIGHBOUR: 'it returns false'. Refute it at one input. -/
def nodeSizesWrong : ChangeSpec := { name := "nodeSizes", fn := fun _ => fun
  | [d] => { results := [.lit (.bool false)], args := [d] }
  | _ => none }
def NodeSizesWrongFalsely : Prop := nodeSizesRow.holds Try.pinned (OpenSpec.ofChange nodeSizesWrong)

/-- 'stillroomlaw09.NodeValue': WHATEVER THE INPUT: true; the input reads as it did. -/
def nodeValueSpec : ChangeSpec := { name := "nodeValue", fn := fun _ => fun
  | [d1, d2] => { results := [.lit (.bool true)], args := [d1, d2] }
  | _ => none }
def nodeValueRow : OpenClaim := { program := "ytaamkdejediccaa", sum := "136f6ae43e7a2bca221d33c158f8f1740cf636f13763a8be9d94e9f1410b41e8", func := "stillroom/stillroomlaw09.NodeValue", spec := "nodeValue", apart := false }
def NodeValueSaid : Prop := nodeValueRow.holds Try.pinned (OpenSpec.ofChange nodeValueSpec)

/-- ITS FALSE NEIGHBOUR: 'it returns false'. Refute it at one input. -/
def nodeValueWrong : ChangeSpec := { name := "nodeValue", fn := fun _ => fun
  | [d1, d2] => { results := [.lit (.bool false)], args := [d1, d2] }
  | _ => none }
def NodeValueWrongFalsely : Prop := nodeValueRow.holds Try.pinned (OpenSpec.ofChange nodeValueWrong)

/-- 'stillroomlaw09.NodeKids': WHATEVER THE INPUT: true; the input reads as it did. -/
def nodeKidsSpec : ChangeSpec := { name := "nodeKids", fn := fun _ => fun
  | [d1, d2, d3] => { results := [.lit (.bool true)], args := [d1, d2, d3] }
  | _ => none }
def nodeKidsRow : OpenClaim := { program := "ytaamkdejediccaa", sum := "136f6ae43e7a2bca221d33c158f8f1740cf636f13763a8be9d94e9f1410b41e8", func := "stillroom/stillroomlaw09.NodeKids", spec := "nodeKids", inPlace := ["slices.overlaps[byte]", "slices.overlaps[uint64]"], apart := false }
def NodeKidsSaid : Prop := nodeKidsRow.holds Try.pinned (OpenSpec.ofChange nodeKidsSpec)

/-- ITS FALSE NEIGHBOUR: 'it returns false'. Refute it at one input. -/
def nodeKidsWrong : ChangeSpec := { name := "nodeKids", fn := fun _ => fun
  | [d1, d2, d3] => { results := [.lit (.bool false)], args := [d1, d2, d3] }
  | _ => none }
def NodeKidsWrongFalsely : Prop := nodeKidsRow.holds Try.pinned (OpenSpec.ofChange nodeKidsWrong)

/-- 'stillroomlaw09.NodeTurns': WHATEVER THE INPUT: true; the input reads as it did. -/
def nodeTurnsSpec : ChangeSpec := { name := "nodeTurns", fn := fun _ => fun
  | [d1, d2, d3] => { results := [.lit (.bool true)], args := [d1, d2, d3] }
  | _ => none }
def nodeTurnsRow : OpenClaim := { program := "ytaamkdejediccaa", sum := "136f6ae43e7a2bca221d33c158f8f1740cf636f13763a8be9d94e9f1410b41e8", func := "stillroom/stillroomlaw09.NodeTurns", spec := "nodeTurns", inPlace := ["slices.overlaps[byte]", "slices.overlaps[uint64]"], apart := false }
def NodeTurnsSaid : Prop := nodeTurnsRow.holds Try.pinned (OpenSpec.ofChange nodeTurnsSpec)

/-- ITS FALSE NEIGHBOUR: 'it returns false'. Refute it at one input. -/
def nodeTurnsWrong : ChangeSpec := { name := "nodeTurns", fn := fun _ => fun
  | [d1, d2, d3] => { results := [.lit (.bool false)], args := [d1, d2, d3] }
  | _ => none }
def NodeTurnsWrongFalsely : Prop := nodeTurnsRow.holds Try.pinned (OpenSpec.ofChange nodeTurnsWrong)

/- THE SECOND FORM. 'bulk': how many values and letters a reading holds, each counted each time it is reached (what is shared counts as often as it is met; a slice's spare places count too). A statement '..UptoSaid' is the law's where the arguments, and the package variables that the reading takes, are together of bulk at most 1048576: NARROWER than '..Said'. Prove '..Said' where nothing that the law and all that it calls make is longer than what came in: it says more and counts as full. Else prove '..UptoSaid'. A law counts once. -/
mutual
def uptoBulk {H : Type} : DataW H → Nat
  | .lit (.string bytes) => bytes.length + 1
  | .lit _ => 1
  | .nil => 1
  | .ptr d => uptoBulk d + 1
  | .slice elems spare => uptoBulkAll elems + uptoBulkAll spare + 1
  | .agg parts => uptoBulkAll parts + 1
  | .iface _ d => uptoBulk d + 1
  | .map entries => uptoBulkEntries entries + 1
  | .held _ => 1
def uptoBulkAll {H : Type} : List (DataW H) → Nat
  | [] => 0
  | d :: r => uptoBulk d + uptoBulkAll r
def uptoBulkEntries {H : Type} : List (Lit × DataW H) → Nat
  | [] => 0
  | x :: r => uptoBulkEntry x + uptoBulkEntries r
def uptoBulkEntry {H : Type} : Lit × DataW H → Nat
  | (.string bytes, d) => bytes.length + uptoBulk d + 1
  | (_, d) => uptoBulk d + 1
 end
def uptoSmall : (H : Type) → List (DataW H) → Bool := fun _ ds => decide (uptoBulkAll ds ≤ 1048576)
def OpenSpec.upto (s : _root_.Go.ChangeSpec) : _root_.Go.OpenSpec := { _root_.Go.OpenSpec.ofChange s with cond := some uptoSmall }

/-- 'stillroomlaw08.NibTells', WHERE WHAT IT READS IS OF BULK AT MOST 1048576: true; the input reads as it did. -/
def nibTellsUptoRow : OpenClaim := { program := "ytaamkdejediccaa", sum := "136f6ae43e7a2bca221d33c158f8f1740cf636f13763a8be9d94e9f1410b41e8", func := "stillroom/stillroomlaw08.NibTells", spec := "nibTells", inPlace := ["internal/bytealg.Compare"], apart := false, narrowed := true }
def NibTellsUptoSaid : Prop := nibTellsUptoRow.holds Try.pinned (OpenSpec.upto nibTellsSpec)

/-- 'stillroomlaw08.NibPacks', WHERE WHAT IT READS IS OF BULK AT MOST 1048576: true; the input reads as it did. -/
def nibPacksUptoRow : OpenClaim := { program := "ytaamkdejediccaa", sum := "136f6ae43e7a2bca221d33c158f8f1740cf636f13763a8be9d94e9f1410b41e8", func := "stillroom/stillroomlaw08.NibPacks", spec := "nibPacks", inPlace := ["internal/bytealg.Compare"], apart := false, narrowed := true }
def NibPacksUptoSaid : Prop := nibPacksUptoRow.holds Try.pinned (OpenSpec.upto nibPacksSpec)

/-- 'stillroomlaw08.NibBack', WHERE WHAT IT READS IS OF BULK AT MOST 1048576: true; the input reads as it did. -/
def nibBackUptoRow : OpenClaim := { program := "ytaamkdejediccaa", sum := "136f6ae43e7a2bca221d33c158f8f1740cf636f13763a8be9d94e9f1410b41e8", func := "stillroom/stillroomlaw08.NibBack", spec := "nibBack", inPlace := ["internal/bytealg.Compare"], apart := false, narrowed := true }
def NibBackUptoSaid : Prop := nibBackUptoRow.holds Try.pinned (OpenSpec.upto nibBackSpec)

/-- 'stillroomlaw08.NibOrder', WHERE WHAT IT READS IS OF BULK AT MOST 1048576: true; the input reads as it did. -/
def nibOrderUptoRow : OpenClaim := { program := "ytaamkdejediccaa", sum := "136f6ae43e7a2bca221d33c158f8f1740cf636f13763a8be9d94e9f1410b41e8", func := "stillroom/stillroomlaw08.NibOrder", spec := "nibOrder", inPlace := ["internal/bytealg.Compare"], apart := false, narrowed := true }
def NibOrderUptoSaid : Prop := nibOrderUptoRow.holds Try.pinned (OpenSpec.upto nibOrderSpec)

/-- 'stillroomlaw08.NibCommon', WHERE WHAT IT READS IS OF BULK AT MOST 1048576: true; the input reads as it did. -/
def nibCommonUptoRow : OpenClaim := { program := "ytaamkdejediccaa", sum := "136f6ae43e7a2bca221d33c158f8f1740cf636f13763a8be9d94e9f1410b41e8", func := "stillroom/stillroomlaw08.NibCommon", spec := "nibCommon", inPlace := ["internal/bytealg.Compare"], apart := false, narrowed := true }
def NibCommonUptoSaid : Prop := nibCommonUptoRow.holds Try.pinned (OpenSpec.upto nibCommonSpec)

/-- 'stillroomlaw08.NibJoins', WHERE WHAT IT READS IS OF BULK AT MOST 1048576: true; the input reads as it did. -/
def nibJoinsUptoRow : OpenClaim := { program := "ytaamkdejediccaa", sum := "136f6ae43e7a2bca221d33c158f8f1740cf636f13763a8be9d94e9f1410b41e8", func := "stillroom/stillroomlaw08.NibJoins", spec := "nibJoins", inPlace := ["internal/bytealg.Compare"], apart := false, narrowed := true }
def NibJoinsUptoSaid : Prop := nibJoinsUptoRow.holds Try.pinned (OpenSpec.upto nibJoinsSpec)

/-- 'stillroomlaw09.NodeBack', WHERE WHAT IT READS IS OF BULK AT MOST 1048576: true; the input reads as it did. -/
def nodeBackUptoRow : OpenClaim := { program := "ytaamkdejediccaa", sum := "136f6ae43e7a2bca221d33c158f8f1740cf636f13763a8be9d94e9f1410b41e8", func := "stillroom/stillroomlaw09.NodeBack", spec := "nodeBack", apart := false, narrowed := true }
def NodeBackUptoSaid : Prop := nodeBackUptoRow.holds Try.pinned (OpenSpec.upto nodeBackSpec)

/-- 'stillroomlaw09.NodeSizes', WHERE WHAT IT READS IS OF BULK AT MOST 1048576: true; the input reads as it did. -/
def nodeSizesUptoRow : OpenClaim := { program := "ytaamkdejediccaa", sum := "136f6ae43e7a2bca221d33c158f8f1740cf636f13763a8be9d94e9f1410b41e8", func := "stillroom/stillroomlaw09.NodeSizes", spec := "nodeSizes", apart := false, narrowed := true }
def NodeSizesUptoSaid : Prop := nodeSizesUptoRow.holds Try.pinned (OpenSpec.upto nodeSizesSpec)

/-- 'stillroomlaw09.NodeValue', WHERE WHAT IT READS IS OF BULK AT MOST 1048576: true; the input reads as it did. -/
def nodeValueUptoRow : OpenClaim := { program := "ytaamkdejediccaa", sum := "136f6ae43e7a2bca221d33c158f8f1740cf636f13763a8be9d94e9f1410b41e8", func := "stillroom/stillroomlaw09.NodeValue", spec := "nodeValue", apart := false, narrowed := true }
def NodeValueUptoSaid : Prop := nodeValueUptoRow.holds Try.pinned (OpenSpec.upto nodeValueSpec)

/-- 'stillroomlaw09.NodeKids', WHERE WHAT IT READS IS OF BULK AT MOST 1048576: true; the input reads as it did. -/
def nodeKidsUptoRow : OpenClaim := { program := "ytaamkdejediccaa", sum := "136f6ae43e7a2bca221d33c158f8f1740cf636f13763a8be9d94e9f1410b41e8", func := "stillroom/stillroomlaw09.NodeKids", spec := "nodeKids", inPlace := ["slices.overlaps[byte]", "slices.overlaps[uint64]"], apart := false, narrowed := true }
def NodeKidsUptoSaid : Prop := nodeKidsUptoRow.holds Try.pinned (OpenSpec.upto nodeKidsSpec)

/-- 'stillroomlaw09.NodeTurns', WHERE WHAT IT READS IS OF BULK AT MOST 1048576: true; the input reads as it did. -/
def nodeTurnsUptoRow : OpenClaim := { program := "ytaamkdejediccaa", sum := "136f6ae43e7a2bca221d33c158f8f1740cf636f13763a8be9d94e9f1410b41e8", func := "stillroom/stillroomlaw09.NodeTurns", spec := "nodeTurns", inPlace := ["slices.overlaps[byte]", "slices.overlaps[uint64]"], apart := false, narrowed := true }
def NodeTurnsUptoSaid : Prop := nodeTurnsUptoRow.holds Try.pinned (OpenSpec.upto nodeTurnsSpec)

end Rows
end Go.Proofs.Ytaamkdejediccaa

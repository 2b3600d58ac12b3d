import Derived.Test.YtcelabojehaioaaGreatDoorRows
import Derived.ProofKit
/- The closed facts of the row of ScriptLetters. -/
namespace Go.Proofs.YtcelabojehaioaaGreatDoor.scriptLetters
theorem k10 : (Rows.scriptLettersRow.inPlace == Tryz.prog.inPlace 8) = true := by kernel_rfl
theorem k11 : (Rows.scriptLettersRow.unfollowed == Tryz.prog.unfollowed 8) = true := by kernel_rfl
theorem k12 : (Rows.scriptLettersRow.recurses == Tryz.prog.recurses 8) = true := by kernel_rfl
theorem k13 : (Rows.scriptLettersRow.named == Tryz.prog.varsNamed 8) = true := by kernel_rfl
theorem closed : joinedFacts Tryz.prog 8 Tryz.f8 Rows.scriptLettersSpec Rows.scriptLettersRow = true := by
  unfold joinedFacts
  rw [k10, k11, k12, k13]
  kernel_rfl
end Go.Proofs.YtcelabojehaioaaGreatDoor.scriptLetters

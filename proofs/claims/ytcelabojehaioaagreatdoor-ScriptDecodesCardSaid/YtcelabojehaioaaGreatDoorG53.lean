import Derived.Test.YtcelabojehaioaaGreatDoorRows
import Derived.ProofKit
/- The closed facts of the row of ScriptDecodes. -/
namespace Go.Proofs.YtcelabojehaioaaGreatDoor.scriptDecodes
theorem k10 : (Rows.scriptDecodesRow.inPlace == Tryz.prog.inPlace 6) = true := by kernel_rfl
theorem k11 : (Rows.scriptDecodesRow.unfollowed == Tryz.prog.unfollowed 6) = true := by kernel_rfl
theorem k12 : (Rows.scriptDecodesRow.recurses == Tryz.prog.recurses 6) = true := by kernel_rfl
theorem k13 : (Rows.scriptDecodesRow.named == Tryz.prog.varsNamed 6) = true := by kernel_rfl
theorem closed : joinedFacts Tryz.prog 6 Tryz.f6 Rows.scriptDecodesSpec Rows.scriptDecodesRow = true := by
  unfold joinedFacts
  rw [k10, k11, k12, k13]
  kernel_rfl
end Go.Proofs.YtcelabojehaioaaGreatDoor.scriptDecodes

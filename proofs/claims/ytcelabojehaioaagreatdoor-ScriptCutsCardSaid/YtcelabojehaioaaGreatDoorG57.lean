import Derived.Test.YtcelabojehaioaaGreatDoorRows
import Derived.ProofKit
/- The closed facts of the row of ScriptCuts. -/
namespace Go.Proofs.YtcelabojehaioaaGreatDoor.scriptCuts
theorem k10 : (Rows.scriptCutsRow.inPlace == Tryz.prog.inPlace 9) = true := by kernel_rfl
theorem k11 : (Rows.scriptCutsRow.unfollowed == Tryz.prog.unfollowed 9) = true := by kernel_rfl
theorem k12 : (Rows.scriptCutsRow.recurses == Tryz.prog.recurses 9) = true := by kernel_rfl
theorem k13 : (Rows.scriptCutsRow.named == Tryz.prog.varsNamed 9) = true := by kernel_rfl
theorem closed : joinedFacts Tryz.prog 9 Tryz.f9 Rows.scriptCutsSpec Rows.scriptCutsRow = true := by
  unfold joinedFacts
  rw [k10, k11, k12, k13]
  kernel_rfl
end Go.Proofs.YtcelabojehaioaaGreatDoor.scriptCuts

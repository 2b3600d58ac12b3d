import Derived.Test.YtgdomldfjiobfaaGreatDoorRows
import Derived.ProofKit
/- The closed facts of the row of WalkMerge. -/
namespace Go.Proofs.YtgdomldfjiobfaaGreatDoor.walkMerge
theorem k10 : (Rows.walkMergeRow.inPlace == Tryz.prog.inPlace 4) = true := by kernel_rfl
theorem k11 : (Rows.walkMergeRow.unfollowed == Tryz.prog.unfollowed 4) = true := by kernel_rfl
theorem k12 : (Rows.walkMergeRow.recurses == Tryz.prog.recurses 4) = true := by kernel_rfl
theorem k13 : (Rows.walkMergeRow.named == Tryz.prog.varsNamed 4) = true := by kernel_rfl
theorem closed : joinedFacts Tryz.prog 4 Tryz.f4 Rows.walkMergeSpec Rows.walkMergeRow = true := by
  unfold joinedFacts
  rw [k10, k11, k12, k13]
  kernel_rfl
end Go.Proofs.YtgdomldfjiobfaaGreatDoor.walkMerge

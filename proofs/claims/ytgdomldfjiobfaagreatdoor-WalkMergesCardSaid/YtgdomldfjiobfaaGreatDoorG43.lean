import Derived.Test.YtgdomldfjiobfaaGreatDoorRows
import Derived.ProofKit
/- The closed facts of the row of WalkMerges. -/
namespace Go.Proofs.YtgdomldfjiobfaaGreatDoor.walkMerges
theorem k10 : (Rows.walkMergesRow.inPlace == Tryz.prog.inPlace 3) = true := by kernel_rfl
theorem k11 : (Rows.walkMergesRow.unfollowed == Tryz.prog.unfollowed 3) = true := by kernel_rfl
theorem k12 : (Rows.walkMergesRow.recurses == Tryz.prog.recurses 3) = true := by kernel_rfl
theorem k13 : (Rows.walkMergesRow.named == Tryz.prog.varsNamed 3) = true := by kernel_rfl
theorem closed : joinedFacts Tryz.prog 3 Tryz.f3 Rows.walkMergesSpec Rows.walkMergesRow = true := by
  unfold joinedFacts
  rw [k10, k11, k12, k13]
  kernel_rfl
end Go.Proofs.YtgdomldfjiobfaaGreatDoor.walkMerges

import Derived.Test.YtklcklflnkbccaaGreatDoorRows
import Derived.ProofKit
/- The closed facts of the row of WalkNext. -/
namespace Go.Proofs.YtklcklflnkbccaaGreatDoor.walkNext
theorem k10 : (Rows.walkNextRow.inPlace == Tryz.prog.inPlace 3) = true := by kernel_rfl
theorem k11 : (Rows.walkNextRow.unfollowed == Tryz.prog.unfollowed 3) = true := by kernel_rfl
theorem k12 : (Rows.walkNextRow.recurses == Tryz.prog.recurses 3) = true := by kernel_rfl
theorem k13 : (Rows.walkNextRow.named == Tryz.prog.varsNamed 3) = true := by kernel_rfl
theorem closed : joinedFacts Tryz.prog 3 Tryz.f3 Rows.walkNextSpec Rows.walkNextRow = true := by
  unfold joinedFacts
  rw [k10, k11, k12, k13]
  kernel_rfl
end Go.Proofs.YtklcklflnkbccaaGreatDoor.walkNext

import Derived.Test.YtklcklflnkbccaaGreatDoorRows
import Derived.ProofKit
/- The closed facts of the row of WalkParts. -/
namespace Go.Proofs.YtklcklflnkbccaaGreatDoor.walkParts
theorem k10 : (Rows.walkPartsRow.inPlace == Tryz.prog.inPlace 4) = true := by kernel_rfl
theorem k11 : (Rows.walkPartsRow.unfollowed == Tryz.prog.unfollowed 4) = true := by kernel_rfl
theorem k12 : (Rows.walkPartsRow.recurses == Tryz.prog.recurses 4) = true := by kernel_rfl
theorem k13 : (Rows.walkPartsRow.named == Tryz.prog.varsNamed 4) = true := by kernel_rfl
theorem closed : joinedFacts Tryz.prog 4 Tryz.f4 Rows.walkPartsSpec Rows.walkPartsRow = true := by
  unfold joinedFacts
  rw [k10, k11, k12, k13]
  kernel_rfl
end Go.Proofs.YtklcklflnkbccaaGreatDoor.walkParts

import Derived.Test.YtgdomldfjiobfaaGreatDoorRows
import Derived.ProofKit
/- The closed facts of the row of IndexNobody. -/
namespace Go.Proofs.YtgdomldfjiobfaaGreatDoor.indexNobody
theorem k10 : (Rows.indexNobodyRow.inPlace == Tryz.prog.inPlace 5) = true := by kernel_rfl
theorem k11 : (Rows.indexNobodyRow.unfollowed == Tryz.prog.unfollowed 5) = true := by kernel_rfl
theorem k12 : (Rows.indexNobodyRow.recurses == Tryz.prog.recurses 5) = true := by kernel_rfl
theorem k13 : (Rows.indexNobodyRow.named == Tryz.prog.varsNamed 5) = true := by kernel_rfl
theorem closed : joinedFacts Tryz.prog 5 Tryz.f5 Rows.indexNobodySpec Rows.indexNobodyRow = true := by
  unfold joinedFacts
  rw [k10, k11, k12, k13]
  kernel_rfl
end Go.Proofs.YtgdomldfjiobfaaGreatDoor.indexNobody

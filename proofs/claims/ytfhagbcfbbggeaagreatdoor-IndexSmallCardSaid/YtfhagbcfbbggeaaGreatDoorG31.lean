import Derived.Test.YtfhagbcfbbggeaaGreatDoorRows
import Derived.ProofKit
namespace Go.Proofs.YtfhagbcfbbggeaaGreatDoor.indexSmall
theorem k10:(Rows.indexSmallRow.inPlace==Tryz.prog.inPlace 4)=true:=by kernel_rfl
theorem k11:(Rows.indexSmallRow.unfollowed==Tryz.prog.unfollowed 4)=true:=by kernel_rfl
theorem k12:(Rows.indexSmallRow.recurses==Tryz.prog.recurses 4)=true:=by kernel_rfl
theorem k13:(Rows.indexSmallRow.named==Tryz.prog.varsNamed 4)=true:=by kernel_rfl
theorem closed:joinedFacts Tryz.prog 4 Tryz.f4 Rows.indexSmallSpec Rows.indexSmallRow=true:=by
 unfold joinedFacts
 rw [k10,k11,k12,k13]
 kernel_rfl
end Go.Proofs.YtfhagbcfbbggeaaGreatDoor.indexSmall

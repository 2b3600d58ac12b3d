import Derived.Test.YtfhagbcfbbggeaaGreatDoorRows
import Derived.ProofKit
namespace Go.Proofs.YtfhagbcfbbggeaaGreatDoor.indexAgain
theorem k10:(Rows.indexAgainRow.inPlace==Tryz.prog.inPlace 5)=true:=by kernel_rfl
theorem k11:(Rows.indexAgainRow.unfollowed==Tryz.prog.unfollowed 5)=true:=by kernel_rfl
theorem k12:(Rows.indexAgainRow.recurses==Tryz.prog.recurses 5)=true:=by kernel_rfl
theorem k13:(Rows.indexAgainRow.named==Tryz.prog.varsNamed 5)=true:=by kernel_rfl
theorem closed:joinedFacts Tryz.prog 5 Tryz.f5 Rows.indexAgainSpec Rows.indexAgainRow=true:=by
 unfold joinedFacts
 rw [k10,k11,k12,k13]
 kernel_rfl
end Go.Proofs.YtfhagbcfbbggeaaGreatDoor.indexAgain

import Derived.Test.YtbkpiojejmhfcaaGreatDoorRows
import Derived.ProofKit
namespace Go.Proofs.YtbkpiojejmhfcaaGreatDoor.engineNobody
theorem k10:(Rows.engineNobodyRow.inPlace==Tryz.prog.inPlace 4)=true:=by kernel_rfl
theorem k11:(Rows.engineNobodyRow.unfollowed==Tryz.prog.unfollowed 4)=true:=by kernel_rfl
theorem k12:(Rows.engineNobodyRow.recurses==Tryz.prog.recurses 4)=true:=by kernel_rfl
theorem k13:(Rows.engineNobodyRow.named==Tryz.prog.varsNamed 4)=true:=by kernel_rfl
theorem closed:joinedFacts Tryz.prog 4 Tryz.f4 Rows.engineNobodySpec Rows.engineNobodyRow=true:=by
 unfold joinedFacts
 rw [k10,k11,k12,k13]
 kernel_rfl
end Go.Proofs.YtbkpiojejmhfcaaGreatDoor.engineNobody

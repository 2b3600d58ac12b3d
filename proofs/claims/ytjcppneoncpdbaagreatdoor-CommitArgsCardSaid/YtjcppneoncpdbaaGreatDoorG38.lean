import Derived.Test.YtjcppneoncpdbaaGreatDoorRows
import Derived.ProofKit
namespace Go.Proofs.YtjcppneoncpdbaaGreatDoor.commitArgs
theorem k10:(Rows.commitArgsRow.inPlace==Tryz.prog.inPlace 3)=true:=by kernel_rfl
theorem k11:(Rows.commitArgsRow.unfollowed==Tryz.prog.unfollowed 3)=true:=by kernel_rfl
theorem k12:(Rows.commitArgsRow.recurses==Tryz.prog.recurses 3)=true:=by kernel_rfl
theorem k13:(Rows.commitArgsRow.named==Tryz.prog.varsNamed 3)=true:=by kernel_rfl
theorem closed:joinedFacts Tryz.prog 3 Tryz.f3 Rows.commitArgsSpec Rows.commitArgsRow=true:=by
 unfold joinedFacts
 rw [k10,k11,k12,k13]
 kernel_rfl
end Go.Proofs.YtjcppneoncpdbaaGreatDoor.commitArgs

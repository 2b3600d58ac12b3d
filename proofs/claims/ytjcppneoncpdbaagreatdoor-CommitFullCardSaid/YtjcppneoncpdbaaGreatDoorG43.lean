import Derived.Test.YtjcppneoncpdbaaGreatDoorRows
import Derived.ProofKit
namespace Go.Proofs.YtjcppneoncpdbaaGreatDoor.commitFull
theorem k10:(Rows.commitFullRow.inPlace==Tryz.prog.inPlace 4)=true:=by kernel_rfl
theorem k11:(Rows.commitFullRow.unfollowed==Tryz.prog.unfollowed 4)=true:=by kernel_rfl
theorem k12:(Rows.commitFullRow.recurses==Tryz.prog.recurses 4)=true:=by kernel_rfl
theorem k13:(Rows.commitFullRow.named==Tryz.prog.varsNamed 4)=true:=by kernel_rfl
theorem closed:joinedFacts Tryz.prog 4 Tryz.f4 Rows.commitFullSpec Rows.commitFullRow=true:=by
 unfold joinedFacts;rw [k10,k11,k12,k13];kernel_rfl
end Go.Proofs.YtjcppneoncpdbaaGreatDoor.commitFull

import Derived.Test.YtjcppneoncpdbaaGreatDoorRows
import Derived.ProofKit
namespace Go.Proofs.YtjcppneoncpdbaaGreatDoor.mendReach
theorem k10:(Rows.mendReachRow.inPlace==Tryz.prog.inPlace 6)=true:=by kernel_rfl
theorem k11:(Rows.mendReachRow.unfollowed==Tryz.prog.unfollowed 6)=true:=by kernel_rfl
theorem k12:(Rows.mendReachRow.recurses==Tryz.prog.recurses 6)=true:=by kernel_rfl
theorem k13:(Rows.mendReachRow.named==Tryz.prog.varsNamed 6)=true:=by kernel_rfl
theorem closed:joinedFacts Tryz.prog 6 Tryz.f6 Rows.mendReachSpec Rows.mendReachRow=true:=by
 unfold joinedFacts;rw [k10,k11,k12,k13];kernel_rfl
end Go.Proofs.YtjcppneoncpdbaaGreatDoor.mendReach

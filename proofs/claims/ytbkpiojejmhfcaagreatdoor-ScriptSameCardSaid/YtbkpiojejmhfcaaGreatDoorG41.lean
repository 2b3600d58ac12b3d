import Derived.Test.YtbkpiojejmhfcaaGreatDoorRows
import Derived.ProofKit
namespace Go.Proofs.YtbkpiojejmhfcaaGreatDoor.scriptSame
theorem k10:(Rows.scriptSameRow.inPlace==Tryz.prog.inPlace 6)=true:=by kernel_rfl
theorem k11:(Rows.scriptSameRow.unfollowed==Tryz.prog.unfollowed 6)=true:=by kernel_rfl
theorem k12:(Rows.scriptSameRow.recurses==Tryz.prog.recurses 6)=true:=by kernel_rfl
theorem k13:(Rows.scriptSameRow.named==Tryz.prog.varsNamed 6)=true:=by kernel_rfl
theorem closed:joinedFacts Tryz.prog 6 Tryz.f6 Rows.scriptSameSpec Rows.scriptSameRow=true:=by
 unfold joinedFacts
 rw [k10,k11,k12,k13]
 kernel_rfl
end Go.Proofs.YtbkpiojejmhfcaaGreatDoor.scriptSame

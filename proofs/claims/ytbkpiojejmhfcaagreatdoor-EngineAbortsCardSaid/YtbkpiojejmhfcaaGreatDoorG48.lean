import Derived.Test.YtbkpiojejmhfcaaGreatDoorRows
import Derived.ProofKit
namespace Go.Proofs.YtbkpiojejmhfcaaGreatDoor.engineAborts
theorem k10:(Rows.engineAbortsRow.inPlace==Tryz.prog.inPlace 5)=true:=by kernel_rfl
theorem k11:(Rows.engineAbortsRow.unfollowed==Tryz.prog.unfollowed 5)=true:=by kernel_rfl
theorem k12:(Rows.engineAbortsRow.recurses==Tryz.prog.recurses 5)=true:=by kernel_rfl
theorem k13:(Rows.engineAbortsRow.named==Tryz.prog.varsNamed 5)=true:=by kernel_rfl
theorem closed:joinedFacts Tryz.prog 5 Tryz.f5 Rows.engineAbortsSpec Rows.engineAbortsRow=true:=by
 unfold joinedFacts
 rw [k10,k11,k12,k13]
 kernel_rfl
end Go.Proofs.YtbkpiojejmhfcaaGreatDoor.engineAborts

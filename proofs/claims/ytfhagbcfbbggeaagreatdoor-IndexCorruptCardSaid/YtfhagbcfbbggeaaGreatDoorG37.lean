import Derived.Test.YtfhagbcfbbggeaaGreatDoorRows
import Derived.ProofKit
namespace Go.Proofs.YtfhagbcfbbggeaaGreatDoor.indexCorrupt
theorem k10:(Rows.indexCorruptRow.inPlace==Tryz.prog.inPlace 3)=true:=by kernel_rfl
theorem k11:(Rows.indexCorruptRow.unfollowed==Tryz.prog.unfollowed 3)=true:=by kernel_rfl
theorem k12:(Rows.indexCorruptRow.recurses==Tryz.prog.recurses 3)=true:=by kernel_rfl
theorem k13:(Rows.indexCorruptRow.named==Tryz.prog.varsNamed 3)=true:=by kernel_rfl
theorem closed:joinedFacts Tryz.prog 3 Tryz.f3 Rows.indexCorruptSpec Rows.indexCorruptRow=true:=by
 unfold joinedFacts
 rw [k10,k11,k12,k13]
 kernel_rfl
end Go.Proofs.YtfhagbcfbbggeaaGreatDoor.indexCorrupt

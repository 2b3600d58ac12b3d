import Derived.Test.YtkimaejoeapmnaaGreatDoorRows
import Derived.ProofKit
namespace Go.Proofs.YtkimaejoeapmnaaGreatDoor.mendBytes
theorem k10:(Rows.mendBytesRow.inPlace==Tryz.prog.inPlace 3)=true:=by kernel_rfl
theorem k11:(Rows.mendBytesRow.unfollowed==Tryz.prog.unfollowed 3)=true:=by kernel_rfl
theorem k12:(Rows.mendBytesRow.recurses==Tryz.prog.recurses 3)=true:=by kernel_rfl
theorem k13:(Rows.mendBytesRow.named==Tryz.prog.varsNamed 3)=true:=by kernel_rfl
theorem closed:joinedFacts Tryz.prog 3 Tryz.f3 Rows.mendBytesSpec Rows.mendBytesRow=true:=by
 unfold joinedFacts;rw [k10,k11,k12,k13];kernel_rfl

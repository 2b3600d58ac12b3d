import Derived.Test.YtkimaejoeapmnaaGreatDoorRows
import Derived.ProofKit
set_option linter.defProp false
namespace Go.Proofs.YtkimaejoeapmnaaGreatDoor.mendLoose
open Go.Proofs.Tryz
def k10:(Rows.mendLooseRow.inPlace==prog.inPlace 4)=true:=by kernel_rfl
def k11:(Rows.mendLooseRow.unfollowed==prog.unfollowed 4)=true:=by kernel_rfl
def k12:(Rows.mendLooseRow.recurses==prog.recurses 4)=true:=by kernel_rfl
def k13:(Rows.mendLooseRow.named==prog.varsNamed 4)=true:=by kernel_rfl
def closed:joinedFacts prog 4 Tryz.f4 Rows.mendLooseSpec Rows.mendLooseRow=true:=by
 unfold joinedFacts;rw [k10,k11,k12,k13];kernel_rfl

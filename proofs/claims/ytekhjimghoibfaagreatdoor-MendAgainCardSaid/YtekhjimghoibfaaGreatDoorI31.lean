import Derived.Test.YtekhjimghoibfaaGreatDoorRows
import Derived.ProofKit
set_option linter.defProp false
namespace Go.Proofs.YtekhjimghoibfaaGreatDoor.mendAgain
open Go.Proofs.Tryz
def k10:(Rows.mendAgainRow.inPlace==prog.inPlace 3)=true:=by kernel_rfl
def k11:(Rows.mendAgainRow.unfollowed==prog.unfollowed 3)=true:=by kernel_rfl
def k12:(Rows.mendAgainRow.recurses==prog.recurses 3)=true:=by kernel_rfl
def k13:(Rows.mendAgainRow.named==prog.varsNamed 3)=true:=by kernel_rfl
def closed:joinedFacts prog 3 Tryz.f3 Rows.mendAgainSpec Rows.mendAgainRow=true:=by
 unfold joinedFacts;rw[k10,k11,k12,k13];kernel_rfl

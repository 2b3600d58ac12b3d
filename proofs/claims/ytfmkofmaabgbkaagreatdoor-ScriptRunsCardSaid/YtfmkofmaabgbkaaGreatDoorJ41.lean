import Derived.Test.YtfmkofmaabgbkaaGreatDoorJ40
set_option linter.defProp false
namespace Go.Proofs.YtfmkofmaabgbkaaGreatDoor
open Go.ChangeShapes Go.WideShapes Go.ChangeAt Go.RowKit
def Ar2{a:Int}(h:(Lit.int .u8 a).wf=true):∃b:Nat,a=(b:Int)/\b<256:=by
 have c:0<=a/\a<=255:=by simpa[Lit.wf,IntKind.min,IntKind.max,IntKind.bits,IntKind.signed]using h
 exact⟨a.toNat,O,O⟩

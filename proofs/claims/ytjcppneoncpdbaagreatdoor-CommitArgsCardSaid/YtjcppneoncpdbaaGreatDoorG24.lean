import Derived.Deep.DeepCutAuto
import Derived.Deep.RegionHeldLaw
import Derived.Test.YtjcppneoncpdbaaGreatDoorG04
import Derived.Test.YtjcppneoncpdbaaGreatDoorG11
import Derived.Test.YtjcppneoncpdbaaGreatDoorG17
import Derived.Test.YtjcppneoncpdbaaGreatDoorG20
namespace Go.Proofs.YtjcppneoncpdbaaGreatDoor
open Go.RowKit
theorem tkv{P:Program}{ops:Array Oper}{Q:Exit→Act→World→Prop}{md:Region.Mode}{S:World→Prop}(i:Nat)(v:Value){oi:Oper}{fuel:Nat}{listed:Array Bool}{a:Act}{w:World}(hi:ops[i]? =some oi)
 (hs:(Region.noSelect ops&&(Region.free md ops listed i&&(Region.ready md ops listed).contains i))=true)(hQ:∀c a w,Q (.panic c) (a.put oi.dst v) w→Q (.panic c) a w)(hg:Region.wanted oi (yielded ops a.tmps)=true)
 (hy:∀w,S w→(execOp a.eval oi).run P w= .ok (.value v) w)(hS:S w)(h:wpAnyH P md ops Q S fuel (listed.setIfInBounds i true) (a.put oi.dst v) w):wpAnyH P md ops Q S (fuel+1) listed a w:=by
 rw [Bool.and_eq_true,Bool.and_eq_true]at hs
 exact wpAnyH_take hi hs.1 hs.2.1 hs.2.2 hQ (.inl ⟨hg,hy⟩) hS h
section
variable{w:World}{base jb x d p L:Nat}{j:Jb}{G:Nat→Prop}
end
end Go.Proofs.YtjcppneoncpdbaaGreatDoor

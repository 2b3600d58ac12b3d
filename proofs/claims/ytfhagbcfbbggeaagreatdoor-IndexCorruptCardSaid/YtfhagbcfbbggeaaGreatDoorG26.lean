import Derived.Deep.DeepCutAuto
import Derived.Deep.RegionHeldLaw
import Derived.Test.YtfhagbcfbbggeaaGreatDoorG04
import Derived.Test.YtfhagbcfbbggeaaGreatDoorG12
import Derived.Test.YtfhagbcfbbggeaaGreatDoorG20
import Derived.Test.YtfhagbcfbbggeaaGreatDoorG24
namespace Go.Proofs.YtfhagbcfbbggeaaGreatDoor
open Go.RowKit
section
variable{w:World}{base jb x d p L:Nat}{j:Jb}{G:Nat→Prop}
end
section
variable{w:World}{x d p L:Nat}{s:St}{F:Nat→Prop}
end
end Go.Proofs.YtfhagbcfbbggeaaGreatDoor

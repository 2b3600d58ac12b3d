import Derived.Laws.IdiomStrings
import Derived.Test.YtjcppneoncpdbaaGreatDoorG04
import Derived.Test.YtjcppneoncpdbaaGreatDoorG12
import Derived.Test.YtjcppneoncpdbaaGreatDoorG32
namespace Go.Proofs.YtjcppneoncpdbaaGreatDoor
open Go.RowKit
section
variable{len:Nat->Nat}{w:World}{x d p L:Nat}{s:St}{F:Nat->Prop}
end
end Go.Proofs.YtjcppneoncpdbaaGreatDoor

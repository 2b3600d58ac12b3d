import Derived.ShutString
import Derived.ChangeOld
import Derived.Lib.SmallJoins
import Derived.Test.YtjcppneoncpdbaaGreatDoorG01
import Derived.Test.YtjcppneoncpdbaaGreatDoorG39
namespace Go.Proofs.YtjcppneoncpdbaaGreatDoor
open Go.ChangeShapes Go.WideShapes Go.ChangeAt Go.RowKit
end Go.Proofs.YtjcppneoncpdbaaGreatDoor

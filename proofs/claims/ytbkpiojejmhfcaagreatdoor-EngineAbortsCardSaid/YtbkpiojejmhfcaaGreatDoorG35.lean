import Derived.ShutString
import Derived.ChangeOld
import Derived.Lib.SmallJoins
import Derived.Test.YtbkpiojejmhfcaaGreatDoorG01
import Derived.Test.YtbkpiojejmhfcaaGreatDoorG34
namespace Go.Proofs.YtbkpiojejmhfcaaGreatDoor
open Go.ChangeShapes Go.WideShapes Go.ChangeAt Go.RowKit
end Go.Proofs.YtbkpiojejmhfcaaGreatDoor

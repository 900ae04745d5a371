import Derived.Test.YtccagffapohkhaaGreatDoorJoin1
import Derived.Test.YtccagffapohkhaaGreatDoorJoin7
import Derived.Test.YtccagffapohkhaaGreatDoorJoin11
namespace Go.Proofs.YtccagffapohkhaaGreatDoor
section
open Go Go.SL
section
open Go.ChangeShapes Go.WideShapes Go.ChangeAt Go.RowKit
end
end
end Go.Proofs.YtccagffapohkhaaGreatDoor

import Derived.Test.YtccagffapohkhaaGreatDoorJoin4
namespace Go.Proofs.YtccagffapohkhaaGreatDoor
section
open Go Go.SL
section
attribute [local irreducible] J JL JE JM LS Y Fc RV Code.wp wpList Code.wpIn wpListIn
attribute [local irreducible] Yc strOf
variable (E : World)
end
end
end Go.Proofs.YtccagffapohkhaaGreatDoor

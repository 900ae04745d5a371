import Derived.Test.YtfohdnclpbipeaaDoorJoin1
import Derived.Test.YtfohdnclpbipeaaDoorJoin4
namespace Go.Proofs.YtfohdnclpbipeaaDoor
section
open Go Go.SL
section
end
section
end
section
attribute [local irreducible] J JL JE JM LS Y Fc RV Code.wp wpList Code.wpIn wpListIn
attribute [local irreducible] Yc Sort.ltInt
variable (E : World)
end
end
end Go.Proofs.YtfohdnclpbipeaaDoor

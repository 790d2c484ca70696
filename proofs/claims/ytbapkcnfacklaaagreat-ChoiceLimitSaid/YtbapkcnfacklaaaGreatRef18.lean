/- The walks of cooperref18: Value, Follows, Right. -/
import Derived.Test.YtbapkcnfacklaaaGreatRef12
import Derived.Test.YtbapkcnfacklaaaGreatBase
import Derived.Test.YtbapkcnfacklaaaGreatCnfA
import Derived.Deep.CutBlock
import Derived.Deep.DeepCutAuto
import Derived.Test.YtbapkcnfacklaaaGreatUpFn
set_option linter.unusedVariables false
namespace Go.Proofs.YtbapkcnfacklaaaGreat
open Go.RowKit
end Go.Proofs.YtbapkcnfacklaaaGreat

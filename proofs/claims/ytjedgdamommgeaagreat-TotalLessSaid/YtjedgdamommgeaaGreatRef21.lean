/- The walks of cooperref21: Kept, Follows. -/
import Derived.Test.YtjedgdamommgeaaGreatRef18A
import Derived.Test.YtjedgdamommgeaaGreatRupA
import Derived.Test.YtjedgdamommgeaaGreatSolE
set_option linter.unusedVariables false
namespace Go.Proofs.YtjedgdamommgeaaGreat
open Go.RowKit
end Go.Proofs.YtjedgdamommgeaaGreat

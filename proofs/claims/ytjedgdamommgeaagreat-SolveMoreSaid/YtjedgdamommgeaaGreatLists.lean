/- The walk of cooperref18.Right. -/
import Derived.Test.YtjedgdamommgeaaGreatLrnP
import Derived.Test.YtjedgdamommgeaaGreatRef12F
set_option linter.unusedVariables false
namespace Go.Proofs.YtjedgdamommgeaaGreat
open Go.RowKit
end Go.Proofs.YtjedgdamommgeaaGreat

/- The walk of cooperref18.All. -/
import Derived.Test.YtjedgdamommgeaaGreatLrnP
set_option linter.unusedVariables false
namespace Go.Proofs.YtjedgdamommgeaaGreat
open Go.RowKit
end Go.Proofs.YtjedgdamommgeaaGreat

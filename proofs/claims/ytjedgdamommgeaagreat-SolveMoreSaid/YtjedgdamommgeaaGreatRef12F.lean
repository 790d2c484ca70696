/- The walk of cooperref12.Form: it is the form that package cnf makes. -/
import Derived.Test.YtjedgdamommgeaaGreatCnfA
import Derived.Test.YtjedgdamommgeaaGreatBase
import Derived.Deep.CutBlock
import Derived.Deep.DeepCutAuto
set_option linter.unusedVariables false
namespace Go.Proofs.YtjedgdamommgeaaGreat
open Go.RowKit
namespace Cnf
end Cnf
end Go.Proofs.YtjedgdamommgeaaGreat

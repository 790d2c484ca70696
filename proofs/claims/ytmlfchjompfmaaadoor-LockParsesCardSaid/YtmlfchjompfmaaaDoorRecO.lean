/- Arguments that came in: recipes, requests, texts, as they lie (for reading). -/
import Derived.Test.YtmlfchjompfmaaaDoorRec1
import Derived.Test.YtmlfchjompfmaaaDoorOpA
set_option linter.unusedVariables false
namespace Go.Proofs.YtmlfchjompfmaaaDoor
open Go.RowKit Go.Deep Go.ChangeShapes Go.WideShapes Go.ChangeAt
end Go.Proofs.YtmlfchjompfmaaaDoor

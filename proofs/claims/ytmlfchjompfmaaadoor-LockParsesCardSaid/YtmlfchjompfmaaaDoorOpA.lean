/- Open OpenR, in one text. -/
import Derived.Test.YtmlfchjompfmaaaDoorBase
import Derived.Deep.Slices
import Derived.SizedLaws
set_option linter.unusedVariables false
namespace Go.Proofs.YtmlfchjompfmaaaDoor
open Go.RowKit Go.Deep Go.ChangeShapes Go.WideShapes Go.ChangeAt
end Go.Proofs.YtmlfchjompfmaaaDoor
namespace Go.Proofs.YtmlfchjompfmaaaDoor
open Go.RowKit
open Go.Deep
end Go.Proofs.YtmlfchjompfmaaaDoor

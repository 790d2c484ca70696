/- RowZ RowO, in one text. -/
import Derived.Test.YtmlfchjompfmaaaDoorBase
import Derived.Test.YtmlfchjompfmaaaDoorRegs
set_option linter.unusedVariables false
namespace Go.Proofs.YtmlfchjompfmaaaDoor
open Go.RowKit
end Go.Proofs.YtmlfchjompfmaaaDoor

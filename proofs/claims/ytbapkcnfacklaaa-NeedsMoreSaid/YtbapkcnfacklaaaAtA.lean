/- RowZ RowO, in one text. -/
import Derived.Test.YtbapkcnfacklaaaBase
import Derived.Test.YtbapkcnfacklaaaRegs
set_option linter.unusedVariables false
namespace Go.Proofs.Ytbapkcnfacklaaa
open Go.RowKit
end Go.Proofs.Ytbapkcnfacklaaa

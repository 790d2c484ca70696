/- LockWrites: any graph's text is the document's, or it may not be written; it is read as it was. -/
import Derived.Test.YtmlfchjompfmaaaDoorLkWG
import Derived.Test.YtmlfchjompfmaaaDoorLkVD
set_option linter.unusedVariables false
namespace Go.Proofs.YtmlfchjompfmaaaDoor
open Go.RowKit
open Lk (textG graphB parseB)
end Go.Proofs.YtmlfchjompfmaaaDoor

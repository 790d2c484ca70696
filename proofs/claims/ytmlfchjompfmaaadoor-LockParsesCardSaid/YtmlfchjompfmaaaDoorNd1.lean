/- What may be needed, plain: names, what they may be, what is reached; the invariant of the search. -/
import Derived.Test.YtmlfchjompfmaaaDoorRec1
set_option linter.unusedVariables false
namespace Go.Proofs.YtmlfchjompfmaaaDoor
end Go.Proofs.YtmlfchjompfmaaaDoor

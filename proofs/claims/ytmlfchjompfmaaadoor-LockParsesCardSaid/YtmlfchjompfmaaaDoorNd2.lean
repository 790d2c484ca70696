/- Find, Providers, Targets: walks. -/
import Derived.Test.YtmlfchjompfmaaaDoorNd1
import Derived.Test.YtmlfchjompfmaaaDoorShelf3
import Derived.Test.YtmlfchjompfmaaaDoorAtA
set_option linter.unusedVariables false
namespace Go.Proofs.YtmlfchjompfmaaaDoor
open Go.RowKit Go.Shelf
end Go.Proofs.YtmlfchjompfmaaaDoor

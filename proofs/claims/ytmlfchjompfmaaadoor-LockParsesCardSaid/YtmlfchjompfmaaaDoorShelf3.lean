/- slices.Index, slices.Contains at []string, off the shelf. -/
import Derived.Test.YtmlfchjompfmaaaDoorProg
import Derived.Shelf.Slices.Turned
import Derived.ProofKit
set_option linter.unusedVariables false
namespace Go.Proofs.YtmlfchjompfmaaaDoor
end Go.Proofs.YtmlfchjompfmaaaDoor

/- RowZ RowO, in one text. -/
import Derived.Test.YtmlfchjompfmaaaGreatDoorBase
import Derived.Test.YtmlfchjompfmaaaGreatDoorRegs
set_option linter.unusedVariables false
namespace Go.Proofs.YtmlfchjompfmaaaGreatDoor
open Go.RowKit
end Go.Proofs.YtmlfchjompfmaaaGreatDoor

/- Open OpenR, in one text. -/
import Derived.Test.YtmlfchjompfmaaaGreatDoorBase
import Derived.Deep.Slices
import Derived.SizedLaws
set_option linter.unusedVariables false
namespace Go.Proofs.YtmlfchjompfmaaaGreatDoor
open Go.RowKit Go.Deep Go.ChangeShapes Go.WideShapes Go.ChangeAt
theorem cellsOf_int : Tryz.prog.cellsOf 3 = 1 := by kernel_rfl
end Go.Proofs.YtmlfchjompfmaaaGreatDoor
namespace Go.Proofs.YtmlfchjompfmaaaGreatDoor
open Go.RowKit
open Go.Deep
end Go.Proofs.YtmlfchjompfmaaaGreatDoor

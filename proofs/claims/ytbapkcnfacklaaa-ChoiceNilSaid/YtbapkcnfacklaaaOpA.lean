/- Open OpenR, in one text. -/
import Derived.Test.YtbapkcnfacklaaaBase
import Derived.Deep.Slices
import Derived.SizedLaws
set_option linter.unusedVariables false
namespace Go.Proofs.Ytbapkcnfacklaaa
open Go.RowKit Go.Deep Go.ChangeShapes Go.WideShapes Go.ChangeAt
theorem cellsOf_int : Try.prog.cellsOf 3 = 1 := by kernel_rfl
end Go.Proofs.Ytbapkcnfacklaaa
namespace Go.Proofs.Ytbapkcnfacklaaa
open Go.RowKit
open Go.Deep
end Go.Proofs.Ytbapkcnfacklaaa

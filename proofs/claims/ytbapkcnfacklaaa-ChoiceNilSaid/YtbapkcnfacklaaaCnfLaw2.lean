/- When a clause has a form, and which: by its members. -/
import Derived.Test.YtbapkcnfacklaaaCnfLaw
set_option linter.unusedVariables false
namespace Go.Proofs.Ytbapkcnfacklaaa
open Go.RowKit Go.Lib Go.Sort Go.Shelf
namespace Cnf
end Cnf
end Go.Proofs.Ytbapkcnfacklaaa

/- The walks of cooperref21: without, Proof. -/
import Derived.Test.YtjedgdamommgeaaGreatRef21
import Derived.Test.YtjedgdamommgeaaGreatRupC
set_option linter.unusedVariables false
namespace Go.Proofs.YtjedgdamommgeaaGreat
open Go.RowKit
namespace Ref
end Ref
section
variable {w : World}
end
end Go.Proofs.YtjedgdamommgeaaGreat

/- The plain law of RupChecks: the checker and the document go through a proof alike. -/
import Derived.Test.YtjedgdamommgeaaGreatRupLaw
import Derived.Test.YtjedgdamommgeaaGreatRef21B
set_option linter.unusedVariables false
namespace Go.Proofs.YtjedgdamommgeaaGreat
namespace Rup
end Rup
end Go.Proofs.YtjedgdamommgeaaGreat

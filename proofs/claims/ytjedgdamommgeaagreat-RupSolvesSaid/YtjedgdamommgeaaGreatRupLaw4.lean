/- The plain law of RupSound: what a proof without a wrong step has is so in each model of the clauses. -/
import Derived.Test.YtjedgdamommgeaaGreatRupLaw3
import Derived.Test.YtjedgdamommgeaaGreatLrnP
set_option linter.unusedVariables false
namespace Go.Proofs.YtjedgdamommgeaaGreat
namespace Rup
open Cnf
def provesB (N : Nat) (css : List (List Int)) (ps : List (Bool × List Int)) (goal : List Int) : Bool :=
 if 0 ≤ (start N css).bad ps 0 then false else ps.any fun p => !p.1 && p.2.all fun x => goal.contains x
end Rup
end Go.Proofs.YtjedgdamommgeaaGreat

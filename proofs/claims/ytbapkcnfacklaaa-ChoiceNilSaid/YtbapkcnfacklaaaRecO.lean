/- Arguments that came in: recipes, requests, texts, as they lie (for reading). -/
import Derived.Test.YtbapkcnfacklaaaRec1
import Derived.Test.YtbapkcnfacklaaaOpA
set_option linter.unusedVariables false
namespace Go.Proofs.Ytbapkcnfacklaaa
open Go.RowKit Go.Deep Go.ChangeShapes Go.WideShapes Go.ChangeAt
section
variable {H : Type} {enc : TypeId × Value → H} {w : World} {base : Nat} {spare : Nat → Bool} {held : Bool} {x : DataW H × List MemPlace}
def Reads {α : Type} (enc : TypeId × Value → H) (w : World) (base : Nat) (spare : Nat → Bool) (held : Bool) (t : TypeId) (C : Nat → World → List Value → α → Prop) : Prop :=
 ∀ {fuel : Nat} {cs : List Value} {x : DataW H × List MemPlace}, DataW.trod enc Try.prog w base spare held fuel t cs = some x → ∃ d, C w.heap.size w cs d
end
end Go.Proofs.Ytbapkcnfacklaaa

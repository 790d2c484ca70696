/- Is a graph more than is gone through? A bool; false: it is small. -/
import Derived.Test.YtmlfchjompfmaaaDoorLkW9
import Derived.Test.YtmlfchjompfmaaaDoorRowB
import Derived.BigQuiet
set_option linter.unusedVariables false
namespace Go.Proofs.YtmlfchjompfmaaaDoor
open Go.RowKit
section
variable {w w' : World} {B : Nat}
theorem all_snoc {α : Type} {p : α → Prop} {l : List α} {i : Nat} {x : α} (h : ∀ s ∈ l.take i, p s) (hx : l[i]? = some x) (hp : p x) : ∀ s ∈ l.take (i + 1), p s := by
 intro s hs
 rw [List.take_add_one, hx] at hs
 rcases List.mem_append.1 hs with h1 | h1
 ·exact h s h1
 ·simp only [Option.toList_some, List.mem_singleton] at h1; rw [h1]; exact hp
end
end Go.Proofs.YtmlfchjompfmaaaDoor

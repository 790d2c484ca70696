/- Where a new block lies. -/
import Derived.Test.YtmlfchjompfmaaaGreatDoorBase
set_option linter.unusedVariables false
namespace Go.Proofs.YtmlfchjompfmaaaGreatDoor
open Go.RowKit
theorem alloc_at {w : World} {o : Obj} {n : Nat} (h : w.heap.size = n) : (w.alloc o).heap[n]? = some o := by subst h; exact heap_alloc_new w o
end Go.Proofs.YtmlfchjompfmaaaGreatDoor

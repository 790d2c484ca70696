/- Rup1 Rup2 Rup3, in one text. -/
import Derived.Test.YtjedgdamommgeaaGreatUpA
import Derived.Defers
import Derived.Test.YtjedgdamommgeaaGreatLists
import Derived.Deep.RegionHeld3
import Derived.Deep.DrawnRows
set_option linter.unusedVariables false
namespace Go.Proofs.YtjedgdamommgeaaGreat
open Go.RowKit
attribute [local go_sem ↓] Go.wp_at_zero Go.wp_at_succ
section
variable {w : World} {g : Tag} {b : Nat}
namespace Rup
theorem form_mem {c f : List Int} (h : Cnf.form c = some f) : ∀ x, x ∈ f ↔ x ∈ c := by
 unfold Cnf.form at h
 split at h
 ·cases h
 ·split at h
  ·cases h
  ·simp at h; subst h; exact Cnf.mem_formL c
end Rup
theorem form_range {xs f : List Int} (h : ∀ x ∈ xs, InI64 x) (hf : Cnf.form xs = some f) : ∀ x ∈ f, InI64 x := fun x hx => h x ((Rup.form_mem hf x).1 hx)
end
end Go.Proofs.YtjedgdamommgeaaGreat

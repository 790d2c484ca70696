/- What is in a clause's form. -/
import Derived.Test.YtbapkcnfacklaaaGreatBase
import Derived.Test.YtbapkcnfacklaaaGreatCnfA
set_option linter.unusedVariables false
namespace Go.Proofs.YtbapkcnfacklaaaGreat
open Go.RowKit
namespace Rup
theorem form_mem {c f : List Int} (h : Cnf.form c = some f) : ∀ x, x ∈ f ↔ x ∈ c := by
 unfold Cnf.form at h
 split at h
 ·cases h
 ·split at h
  ·cases h
  ·simp at h; subst h; exact Cnf.mem_formL c
end Rup
theorem form_range {xs f : List Int} (h : ∀ x ∈ xs, InI64 x) (hf : Cnf.form xs = some f) : ∀ x ∈ f, InI64 x := fun x hx => h x ((Rup.form_mem hf x).1 hx)
end Go.Proofs.YtbapkcnfacklaaaGreat

/- Small words on lists of literals. -/
import Derived.Test.YtbapkcnfacklaaaGreatRef18
set_option linter.unusedVariables false
namespace Go.Proofs.YtbapkcnfacklaaaGreat
open Go.RowKit
namespace Cnf
theorem all_drop {α : Type} (p : α → Bool) {c : List α} {k : Nat} (d : α) (h : k < c.length) : (c.drop k).all p = (p (c.getD k d) && (c.drop (k + 1)).all p) := by
 rw [List.drop_eq_getElem_cons h, List.all_cons]
 have e : c.getD k d = c[k] := by simp [List.getD_eq_getElem?_getD, h]
 rw [e]
end Cnf
end Go.Proofs.YtbapkcnfacklaaaGreat

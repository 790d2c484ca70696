/- Clauses in plain Lean: the order of literals, a clause's form. -/
import Derived.Test.YtbapkcnfacklaaaSlicesI
set_option linter.unusedVariables false
namespace Go.Proofs.Ytbapkcnfacklaaa
open Go.RowKit Go.Lib Go.Sort Go.Shelf
namespace Cnf
def minI : Int := -9223372036854775808
def wr (x : Int) : Bool := x == 0 || x == minI
def absW (x : Int) : Int := max x (IntKind.i64.wrap (-x))
def cf (x y : Int) : Int := if Lib.compareInt (absW x) (absW y) = 0 then Lib.compareInt x y else Lib.compareInt (absW x) (absW y)
def lt (x y : Int) : Bool := decide (absW x < absW y ∨ (absW x = absW y ∧ x < y))
theorem lt_eq (x y : Int) : ltOf cf x y = lt x y := by
 unfold ltOf cf lt Lib.compareInt
 congr 1
 apply propext
 split <;> split <;> (try split) <;> (try split) <;> omega
theorem lt_iff (x y : Int) : lt x y = true ↔ absW x < absW y ∨ (absW x = absW y ∧ x < y) := by simp [lt]
theorem lt_not (x y : Int) : lt x y = false ↔ absW y ≤ absW x ∧ (absW x = absW y → y ≤ x) := by rw [← Bool.not_eq_true, lt_iff]; omega
theorem swo : SWO (ltOf cf) where
 irrefl x := by rw [lt_eq, lt_not]; omega
 trans x y z h1 h2 := by rw [lt_eq, lt_iff] at *; omega
 ntrans x y z h1 h2 := by rw [lt_eq, lt_not] at *; omega
theorem total (x y : Int) (h1 : (ltOf cf) x y = false) (h2 : (ltOf cf) y x = false) : x = y := by
 rw [lt_eq, lt_not] at *; omega
def sortL (xs : List Int) : List Int := xs.mergeSort fun x y => !(ltOf cf) y x
def formL (xs : List Int) : List Int := Lib.compact (sortL xs)
def clash (l : List Int) : Bool := (List.range l.length).any fun i => decide (1 ≤ i) && (l.getD i 0 == IntKind.i64.wrap (-(l.getD (i - 1) 0)))
def form (xs : List Int) : Option (List Int) := if xs.any wr then none else if clash (formL xs) then none else some (formL xs)
end Cnf
end Go.Proofs.Ytbapkcnfacklaaa

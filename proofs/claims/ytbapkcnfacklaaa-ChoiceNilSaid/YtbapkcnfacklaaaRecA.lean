/- An atom that came in. -/
import Derived.Test.YtbapkcnfacklaaaRecO
import Derived.Test.YtbapkcnfacklaaaCh11
set_option linter.unusedVariables false
namespace Go.Proofs.Ytbapkcnfacklaaa
open Go.RowKit Go.Deep Go.ChangeShapes Go.WideShapes Go.ChangeAt
section
variable {H : Type} {enc : TypeId × Value → H} {w : World} {base : Nat} {spare : Nat → Bool} {held : Bool}
theorem cellsOf_atom : Try.prog.cellsOf 37 = 4 := by kernel_rfl
theorem cellsOf_u8 : Try.prog.cellsOf 5 = 1 := by kernel_rfl
set_option maxRecDepth 100000 in
theorem reads_atom : Reads (H := H) enc w base spare held 37 AtomC := fun {fuel cs x} ht => by
 obtain ⟨xs, m, _, hx, hlen, hxl, hf⟩ := DataW.trod_struct Try.underlying37 ht
 rw [cellsOf_atom] at hlen
 match cs, hlen with
 | [c0, c1, c2, c3], _ =>
  match xs, hxl with
  | [x0, x1, x2, x3], _ =>
   have f0 := hf 0 _ rfl
   have f1 := hf 1 _ rfl
   have f2 := hf 2 _ rfl
   have f3 := hf 3 _ rfl
   obtain ⟨k0, e0, _, _⟩ := DataW.trod_int Try.underlying5 f0
   obtain ⟨k1, e1, _, _⟩ := DataW.trod_int Try.underlying3 f1
   obtain ⟨k2, e2, _, _⟩ := DataW.trod_int Try.underlying3 f2
   obtain ⟨k3, e3, _, _⟩ := DataW.trod_int Try.underlying3 f3
   simp [cellsOf_u8, cellsOf_int] at e0 e1 e2 e3
   subst e0 e1 e2 e3
   exact ⟨(k0, k1, k2, k3), rfl⟩
theorem ChoiceNil_walk {B : Nat} {cs : List Value} {x : At} (h : AtomC B w cs x) {n : Int} :
  Calls Try.prog 4 #[.agg cs.toArray, .int .i64 n] w fun e w' => e = .returned (.bool true) ∧ Only (fun _ => False) w w' := ChoiceNil_any h n
end
end Go.Proofs.Ytbapkcnfacklaaa

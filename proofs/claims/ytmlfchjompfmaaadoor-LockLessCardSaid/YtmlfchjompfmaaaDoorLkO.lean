/- A graph that came in, as it lies (for reading). -/
import Derived.Test.YtmlfchjompfmaaaDoorRecO
import Derived.Test.YtmlfchjompfmaaaDoorLkM
set_option linter.unusedVariables false
namespace Go.Proofs.YtmlfchjompfmaaaDoor
open Go.RowKit Go.Deep Go.ChangeShapes Go.WideShapes Go.ChangeAt
section
variable {H : Type} {enc : TypeId × Value → H} {w : World} {base : Nat} {spare : Nat → Bool} {held : Bool} {x : DataW H × List MemPlace}
theorem cellsOf_node : Tryd.prog.cellsOf 80 = 4 := by kernel_rfl
theorem cellsOf_graph : Tryd.prog.cellsOf 39 = 1 := by kernel_rfl
theorem cellsOf_slnode : Tryd.prog.cellsOf 37 = 1 := by kernel_rfl
set_option maxRecDepth 100000 in
theorem reads_node : Reads (H := H) enc w base spare held 80 NodC := fun {fuel cs x} ht => by
 obtain ⟨xs, m, _, hx, hlen, hxl, hf⟩ := DataW.trod_struct Tryd.underlying80 ht
 rw [cellsOf_node] at hlen
 match cs, hlen with
 | [c0, c1, c2, c3], _ =>
  match xs, hxl with
  | [x0, x1, x2, x3], _ =>
   have f0 := hf 0 _ rfl
   have f1 := hf 1 _ rfl
   have f2 := hf 2 _ rfl
   have f3 := hf 3 _ rfl
   obtain ⟨s0, e0, h0⟩ := reads_str f0
   obtain ⟨s1, e1, h1⟩ := reads_str f1
   obtain ⟨v2, l2, e2, h2⟩ := rowT_of (by decide) Tryd.underlying56 cellsOf_set reads_set f2
   obtain ⟨v3, l3, e3, h3⟩ := rowT_of (by decide) Tryd.underlying22 cellsOf_str reads_str f3
   simp [cellsOf_str, cellsOf_slset, cellsOf_sls] at e0 e1 e2 e3
   subst e0 e1 e2 e3
   exact ⟨⟨s0, s1, l2, l3⟩, _, _, rfl, h0, h1, h2, h3⟩
set_option maxRecDepth 100000 in
theorem reads_gra : Reads (H := H) enc w base spare held 39 GraC := fun {fuel cs x} ht => by
 obtain ⟨xs, m, _, hx, hlen, hxl, hf⟩ := DataW.trod_struct Tryd.underlying39 ht
 rw [cellsOf_graph] at hlen
 match cs, hlen with
 | [c0], _ =>
  match xs, hxl with
  | [x0], _ =>
   have f0 := hf 0 _ rfl
   obtain ⟨v0, l0, e0, h0⟩ := rowT_of (by decide) Tryd.underlying37 cellsOf_node reads_node f0
   simp [cellsOf_slnode] at e0
   subst e0
   exact ⟨l0, _, rfl, h0⟩
end
end Go.Proofs.YtmlfchjompfmaaaDoor

/- Rows of structs flattened; append as one step of a region that draws its order. -/
import Derived.Test.YtmlfchjompfmaaaGreatDoorRec1
import Derived.Test.YtmlfchjompfmaaaGreatDoorRegs
import Derived.Deep.Slices
set_option linter.unusedVariables false
namespace Go.Proofs.YtmlfchjompfmaaaGreatDoor
open Go.RowKit
section
variable {w w' : World} {B : Nat}
theorem RowT.of_own {α : Type} {n : Nat} {C : Nat → World → List Value → α → Prop} {e : TypeId} {v : Value} {xs : List α} {cs : List Value} (h : w.ownsRow 0 e n v xs.length cs)
  (hx : ∀ i (hi : i < xs.length), ∃ c, c.length = n ∧ (∀ j u, c[j]? = some u → cs[i * n + j]? = some u) ∧ C w.heap.size w c xs[i]) : RowT n C w.heap.size w v xs := by
 obtain ⟨ao, cap, rfl, h1, h2⟩ := own_slice h
 unfold maxLen at h2
 refine ⟨⟨ao, cap, rfl, h1, by omega⟩, fun ao' len' cap' hv hp => ?_, fun len' cap' hv => by rw [hv] at h; exact own_nil h⟩
 simp only [Value.slice.injEq] at hv
 obtain ⟨rfl, rfl, rfl⟩ := hv
 obtain ⟨g, cap', he, _, _⟩ := own_some h hp
 simp only [Value.slice.injEq] at he
 obtain ⟨rfl, -, rfl⟩ := he
 refine ⟨g, 0, rfl, own_lt h rfl, Nat.le_refl _, fun i hi => ?_⟩
 obtain ⟨c, g1, g2, g3⟩ := hx i hi
 refine ⟨c, g1, fun j u hu => ?_, g3⟩
 have := g2 j u hu
 rw [Nat.zero_add]
 have h2 := h.cells (g := g) rfl _ _ this
 rw [Go.WideShapes.add_plain, Nat.zero_add] at h2
 exact h2
end
end Go.Proofs.YtmlfchjompfmaaaGreatDoor

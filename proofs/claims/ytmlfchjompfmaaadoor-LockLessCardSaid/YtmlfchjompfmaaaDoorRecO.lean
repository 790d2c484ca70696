/- Arguments that came in: recipes, requests, texts, as they lie (for reading). -/
import Derived.Test.YtmlfchjompfmaaaDoorRec1
import Derived.Test.YtmlfchjompfmaaaDoorOpA
set_option linter.unusedVariables false
namespace Go.Proofs.YtmlfchjompfmaaaDoor
open Go.RowKit Go.Deep Go.ChangeShapes Go.WideShapes Go.ChangeAt
section
variable {H : Type} {enc : TypeId × Value → H} {w : World} {base : Nat} {spare : Nat → Bool} {held : Bool} {x : DataW H × List MemPlace}
def Reads {α : Type} (enc : TypeId × Value → H) (w : World) (base : Nat) (spare : Nat → Bool) (held : Bool) (t : TypeId) (C : Nat → World → List Value → α → Prop) : Prop :=
 ∀ {fuel : Nat} {cs : List Value} {x : DataW H × List MemPlace}, DataW.trod enc Tryd.prog w base spare held fuel t cs = some x → ∃ d, C w.heap.size w cs d
theorem rowT_of {α : Type} [Inhabited α] {n : Nat} {C : Nat → World → List Value → α → Prop} {t e : TypeId} (hn : 0 < n) (ht : Tryd.prog.underlying t = some (.slice e)) (he : Tryd.prog.cellsOf e = n) (hC : Reads enc w base spare held e C) {fuel : Nat} {cs : List Value}
  (h : DataW.trod enc Tryd.prog w base spare held fuel t cs = some x) : ∃ v xs, cs = [v] ∧ RowT n C w.heap.size w v xs := by
 rcases open_slice ht h with ⟨rfl, _⟩ | ⟨a, len, cap, m, f, D, Pl, rfl, hb, hl, hm, hmm, hx, hi⟩
 ·exact ⟨_, [], rfl, RowT.nilRow⟩
 ·have hlm : len ≤ m := by rw [hmm]; split <;> omega
  obtain ⟨F, hF⟩ := choose_lt (α := α) (n := len) (p := fun i q => ∃ cs', cs'.length = n ∧ (∀ j u, cs'[j]? = some u → w.cell? ((a.add (i * n)).add j) = some u) ∧ C w.heap.size w cs' q) (fun i hil => by
   obtain ⟨cs', h1, h2⟩ := hi i (by omega)
   rw [he] at h1
   obtain ⟨_, hlen, hat⟩ := World.cells?_some h1
   obtain ⟨d, hd⟩ := hC h2
   exact ⟨d, cs', hlen, fun j u hu => (hat j (by have := (List.getElem?_eq_some_iff.1 hu).1; omega)).trans hu, hd⟩)
  unfold maxLen at hm
  refine ⟨_, (List.range len).map F, rfl, ⟨some a, cap, by simp, by simp; omega, by omega⟩, fun ao len' cap' hv hp => ?_, fun len' cap' hv => by simp at hv⟩
  simp only [List.length_map, List.length_range] at hp ⊢
  simp only [Value.slice.injEq] at hv
  obtain ⟨rfl, -, -⟩ := hv
  obtain ⟨blk, off, spot⟩ := a
  obtain ⟨cs0, hl0, hr0, -⟩ := hF 0 hp
  have h00 : cs0[0]? = some (cs0[0]'(by omega)) := List.getElem?_eq_getElem _
  have hspot : spot = none := by
   have := hr0 0 _ h00
   simpa [Addr.add] using World.cell?_spot this
  subst hspot
  refine ⟨blk, off, rfl, ?_, Nat.le_refl _, fun i hi2 => ?_⟩
  ·have := World.block_lt_of_cell? _ _ (hr0 0 _ h00)
   simpa [Addr.add] using this
  ·obtain ⟨cs', g0, g1, g2⟩ := hF i hi2
   refine ⟨cs', g0, fun j u hu => ?_, by simpa using g2⟩
   have := g1 j u hu
   simpa only [Go.WideShapes.add_plain] using this
theorem cellsOf_str : Tryd.prog.cellsOf 9 = 1 := by kernel_rfl
theorem cellsOf_set : Tryd.prog.cellsOf 60 = 2 := by kernel_rfl
theorem cellsOf_sls : Tryd.prog.cellsOf 22 = 1 := by kernel_rfl
theorem cellsOf_slset : Tryd.prog.cellsOf 56 = 1 := by kernel_rfl
theorem reads_str : Reads (H := H) enc w base spare held 9 StrC := fun h => by
 obtain ⟨s, rfl, -, hs⟩ := DataW.trod_string Tryd.underlying9 h
 exact ⟨s, rfl, hs⟩
set_option maxRecDepth 100000 in
theorem reads_set : Reads (H := H) enc w base spare held 60 SetC := fun {fuel cs x} ht => by
 obtain ⟨xs, m, _, hx, hlen, hxl, hf⟩ := DataW.trod_struct Tryd.underlying60 ht
 rw [cellsOf_set] at hlen
 match cs, hlen with
 | [c0, c1], _ =>
  match xs, hxl with
  | [x0, x1], _ =>
   have f0 := hf 0 _ rfl
   have f1 := hf 1 _ rfl
   obtain ⟨s0, e0, h0⟩ := reads_str f0
   obtain ⟨s1, e1, h1⟩ := reads_str f1
   simp [cellsOf_str] at e0 e1
   subst e0 e1
   exact ⟨⟨s0, s1⟩, rfl, h0, h1⟩
end
end Go.Proofs.YtmlfchjompfmaaaDoor

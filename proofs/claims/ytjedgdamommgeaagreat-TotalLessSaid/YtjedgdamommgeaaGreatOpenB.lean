/- Arguments that came in: slices of truth values. -/
import Derived.Test.YtjedgdamommgeaaGreatOpA
import Derived.Test.YtjedgdamommgeaaGreatLrnP
set_option linter.unusedVariables false
namespace Go.Proofs.YtjedgdamommgeaaGreat
open Go.RowKit Go.Deep Go.ChangeShapes Go.WideShapes Go.ChangeAt
theorem cellsOf_boolB : Tryz.prog.cellsOf 4 = 1 := by kernel_rfl
section
variable {H : Type} {enc : TypeId × Value → H} {w : World} {base : Nat} {spare : Nat → Bool} {held : Bool} {fuel : Nat} {x : DataW H × List MemPlace}
theorem bools_of {v : Value} (h : DataW.trod enc Tryz.prog w base spare held fuel 28 [v] = some x) : ∃ xs, Bools w v xs := by
 rcases open_slice1 Tryz.underlying28 cellsOf_boolB h with ⟨hcs, _⟩ | ⟨a, len, cap, m, n, V, D, Pl, hcs, hb, hl, hm, hmm, hx, hi⟩
 ·simp at hcs
  subst hcs
  exact ⟨[], ⟨none, 0, rfl, Nat.le_refl _, by decide⟩, fun _ _ _ _ hp => by simp at hp⟩
 ·simp at hcs
  subst hcs
  have hlm : len ≤ m := by rw [hmm]; split <;> omega
  obtain ⟨f, hf⟩ := choose_lt (α := Bool) (n := len) (p := fun i z => V i = .bool z) (fun i hil => by
   obtain ⟨h1, h2⟩ := hi i (by omega)
   obtain ⟨k, e, _⟩ := DataW.trod_bool Tryz.underlying4 h2
   simp at e
   exact ⟨k, e⟩)
  have hc : ∀ i, i < len → w.cell? (a.add i) = some (.bool (f i)) := fun i hil => by
   rw [(hi i (by omega)).1, hf i hil]
  unfold maxLen at hm
  refine ⟨(List.range len).map f, ⟨some a, cap, by simp, by simp; omega, by omega⟩, fun ao len' cap' hv hp => ?_⟩
  simp only [List.length_map, List.length_range] at hp ⊢
  obtain ⟨b, off, rfl, hbl, hcc⟩ := spot_none hc hp
  simp only [Value.slice.injEq] at hv
  obtain ⟨rfl, -, -⟩ := hv
  refine ⟨b, off, rfl, hbl, fun i hi => ?_⟩
  rw [hcc i hi, getD_range_map f false hi]
end
end Go.Proofs.YtjedgdamommgeaaGreat

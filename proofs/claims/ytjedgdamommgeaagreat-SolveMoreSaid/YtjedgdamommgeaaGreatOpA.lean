/- Open OpenR, in one text. -/
import Derived.Test.YtjedgdamommgeaaGreatBase
import Derived.Deep.Slices
import Derived.SizedLaws
set_option linter.unusedVariables false
namespace Go.Proofs.YtjedgdamommgeaaGreat
open Go.RowKit Go.Deep Go.ChangeShapes Go.WideShapes Go.ChangeAt
theorem cellsOf_int : Tryz.prog.cellsOf 3 = 1 := by kernel_rfl
theorem cellsOf_sl : Tryz.prog.cellsOf 23 = 1 := by kernel_rfl
section
variable {H : Type} {enc : TypeId × Value → H} {w : World} {base : Nat} {spare : Nat → Bool} {held : Bool} {fuel : Nat} {x : DataW H × List MemPlace}
theorem getD_range_map {α : Type} (f : Nat → α) (d : α) {n i : Nat} (h : i < n) : ((List.range n).map f).getD i d = f i := by
 simp [List.getD_eq_getElem?_getD, h]
theorem spot_none {a : Addr} {n : Nat} {u : Nat → Value} (h : ∀ i, i < n → w.cell? (a.add i) = some (u i)) (hn : 0 < n) : ∃ b off, a = ⟨b, off, none⟩ ∧ b < w.heap.size ∧ ∀ i, i < n → w.cell? ⟨b, off + i, none⟩ = some (u i) := by
 obtain ⟨blk, off, spot⟩ := a
 have hspot : spot = none := by
  have := h 0 hn
  simpa [Addr.add] using World.cell?_spot this
 subst hspot
 refine ⟨blk, off, rfl, ?_, fun i hi => ?_⟩
 ·have := World.block_lt_of_cell? _ _ (h 0 hn)
  simpa [Addr.add] using this
 ·have := h i hi
  simpa only [Go.WideShapes.add_plain] using this
theorem ints_of {v : Value} (h : DataW.trod enc Tryz.prog w base spare held fuel 23 [v] = some x) : ∃ xs, Ints w v xs := by
 rcases open_slice1 Tryz.underlying23 cellsOf_int h with ⟨hcs, _⟩ | ⟨a, len, cap, m, n, V, D, Pl, hcs, hb, hl, hm, hmm, hx, hi⟩
 ·simp at hcs
  subst hcs
  exact ⟨[], ⟨none, 0, rfl, Nat.le_refl _, by decide⟩, fun _ _ _ _ hp => by simp at hp, (fun x hx => by cases hx), fun len cap hv => by simp at hv; omega⟩
 ·simp at hcs
  subst hcs
  have hlm : len ≤ m := by rw [hmm]; split <;> omega
  obtain ⟨f, hf⟩ := choose_lt (α := Int) (n := len) (p := fun i z => V i = .int .i64 z ∧ InI64 z) (fun i hil => by
   obtain ⟨h1, h2⟩ := hi i (by omega)
   obtain ⟨k, e, _, wf⟩ := DataW.trod_int Tryz.underlying3 h2
   simp at e
   exact ⟨k, e, bounds_i64 wf⟩)
  have hc : ∀ i, i < len → w.cell? (a.add i) = some (.int .i64 (f i)) := fun i hil => by
   rw [(hi i (by omega)).1, (hf i hil).1]
  unfold maxLen at hm
  refine ⟨(List.range len).map f, ⟨some a, cap, by simp, by simp; omega, by omega⟩, fun ao len' cap' hv hp => ?_, fun x hx => ?_, fun len' cap' hv => by simp at hv⟩
  ·simp only [List.length_map, List.length_range] at hp ⊢
   obtain ⟨b, off, rfl, hbl, hcc⟩ := spot_none hc hp
   simp only [Value.slice.injEq] at hv
   obtain ⟨rfl, -, -⟩ := hv
   refine ⟨b, off, rfl, hbl, fun i hi => ?_⟩
   rw [hcc i hi, getD_range_map f 0 hi]
  ·obtain ⟨i, hi, rfl⟩ := List.mem_map.1 hx
   exact (hf i (List.mem_range.1 hi)).2
theorem intsS_of {v : Value} (h : DataW.trod enc Tryz.prog w base spare held fuel 22 [v] = some x) : ∃ css, IntsS w v css := by
 rcases open_slice1 Tryz.underlying22 cellsOf_sl h with ⟨hcs, _⟩ | ⟨a, len, cap, m, n, V, D, Pl, hcs, hb, hl, hm, hmm, hx, hi⟩
 ·simp at hcs
  subst hcs
  exact ⟨[], [], ⟨⟨none, 0, rfl, Nat.le_refl _, by decide⟩, fun _ _ _ _ hp => by simp at hp, fun len cap hv => by simp at hv; omega⟩, rfl, fun i hi => by simp at hi⟩
 ·simp at hcs
  subst hcs
  have hlm : len ≤ m := by rw [hmm]; split <;> omega
  obtain ⟨f, hf⟩ := choose_lt (α := List Int) (n := len) (p := fun i xs => Ints w (V i) xs) (fun i hil => ints_of (hi i (by omega)).2)
  have hc : ∀ i, i < len → w.cell? (a.add i) = some (V i) := fun i hil => (hi i (by omega)).1
  unfold maxLen at hm
  refine ⟨(List.range len).map f, (List.range len).map V, ⟨⟨some a, cap, by simp, by simp; omega, by omega⟩, fun ao len' cap' hv hp => ?_, fun len' cap' hv => by simp at hv⟩, by simp, fun i hi => ?_⟩
  ·simp only [List.length_map, List.length_range] at hp ⊢
   obtain ⟨b, off, rfl, hbl, hcc⟩ := spot_none hc hp
   simp only [Value.slice.injEq] at hv
   obtain ⟨rfl, -, -⟩ := hv
   refine ⟨b, off, rfl, hbl, fun i hi => ?_⟩
   rw [hcc i hi, getD_range_map V nilS hi]
  ·simp only [List.length_map, List.length_range] at hi
   rw [getD_range_map V nilS hi, getD_range_map f [] hi]
   exact hf i hi
end
end Go.Proofs.YtjedgdamommgeaaGreat
namespace Go.Proofs.YtjedgdamommgeaaGreat
open Go.RowKit
open Go.Deep
end Go.Proofs.YtjedgdamommgeaaGreat

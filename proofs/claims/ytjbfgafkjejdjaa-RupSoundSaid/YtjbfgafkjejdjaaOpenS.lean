/- Arguments that came in: slices of steps of a proof. -/
import Derived.Test.YtjbfgafkjejdjaaOpen
import Derived.Test.YtjbfgafkjejdjaaRup7
namespace Go.Proofs.Ytjbfgafkjejdjaa
open Go.RowKit Go.Deep Go.ChangeShapes Go.WideShapes Go.ChangeAt

theorem cellsOf_step : Try.prog.cellsOf 48 = 2 := by kernel_rfl
theorem cellsOf_bool : Try.prog.cellsOf 4 = 1 := by kernel_rfl

section
variable {H : Type} {enc : TypeId × Value → H} {w : World} {base : Nat} {spare : Nat → Bool} {held : Bool} {fuel : Nat} {x : DataW H × List MemPlace}

set_option maxRecDepth 100000 in
theorem step_of {a : Addr} {cs : List Value} (hc : w.cells? base a 2 = some cs) (ht : DataW.trod enc Try.prog w base spare held fuel 48 cs = some x) :
    ∃ q : Bool × Value × List Int, w.cell? (a.add 0) = some (.bool q.1) ∧ w.cell? (a.add 1) = some q.2.1 ∧ Ints w q.2.1 q.2.2 := by
  obtain ⟨_, hlen, hat⟩ := World.cells?_some hc
  obtain ⟨xs, m, _, hx, _, hxl, hf⟩ := DataW.trod_struct Try.underlying48 ht
  match cs, hlen with
  | [c0, c1], _ =>
    match xs, hxl with
    | [x0, x1], _ =>
      have f0 := hf 0 _ rfl
      have f1 := hf 1 _ rfl
      obtain ⟨k0, e0, _⟩ := DataW.trod_bool Try.underlying4 f0
      obtain ⟨v1, zs, e1, hz⟩ := ints_of' f1
      simp [cellsOf_bool, cellsOf_sl] at e0 e1
      subst e0 e1
      exact ⟨(k0, c1, zs), hat 0 (by omega), hat 1 (by omega), hz⟩

theorem steps_of {v : Value} (h : DataW.trod enc Try.prog w base spare held fuel 36 [v] = some x) : ∃ ps, StepsAt w v ps := by
  rcases open_slice Try.underlying36 h with ⟨hcs, _⟩ | ⟨a, len, cap, m, n, D, Pl, hcs, hb, hl, hm, hmm, hx, hi⟩
  · simp at hcs
    subst hcs
    exact ⟨[], ⟨none, 0, rfl, Nat.le_refl _, by decide⟩, fun _ _ _ _ hp => by simp at hp⟩
  · simp at hcs
    subst hcs
    have hlm : len ≤ m := by rw [hmm]; split <;> omega
    obtain ⟨f, hf⟩ := choose_lt (α := Bool × Value × List Int) (n := len) (p := fun i q => w.cell? ((a.add (i * 2)).add 0) = some (.bool q.1) ∧ w.cell? ((a.add (i * 2)).add 1) = some q.2.1 ∧ Ints w q.2.1 q.2.2) (fun i hil => by
      obtain ⟨cs', h1, h2⟩ := hi i (by omega)
      rw [cellsOf_step] at h1
      exact step_of h1 h2)
    unfold maxLen at hm
    refine ⟨(List.range len).map fun i => ((f i).1, (f i).2.2), ⟨some a, cap, by simp, by simp; omega, by omega⟩, fun ao len' cap' hv hp => ?_⟩
    simp only [List.length_map, List.length_range] at hp ⊢
    simp only [Value.slice.injEq] at hv
    obtain ⟨rfl, -, -⟩ := hv
    obtain ⟨blk, off, spot⟩ := a
    have hspot : spot = none := by
      have := (hf 0 hp).1
      simpa [Addr.add] using World.cell?_spot this
    subst hspot
    refine ⟨blk, off, fun i => (f i).2.1, rfl, ?_, fun i hi => ?_⟩
    · have := World.block_lt_of_cell? _ _ (hf 0 hp).1
      simpa [Addr.add] using this
    · obtain ⟨g0, g1, g2⟩ := hf i hi
      simp only [Go.WideShapes.add_plain, Nat.add_zero] at g0 g1
      rw [getD_range_map _ _ hi]
      exact ⟨g0, g1, g2⟩
end
end Go.Proofs.Ytjbfgafkjejdjaa

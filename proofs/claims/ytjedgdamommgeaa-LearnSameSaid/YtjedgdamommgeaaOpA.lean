/- Open OpenR, in one text. -/
import Derived.Test.YtjedgdamommgeaaBase
import Derived.Deep.Slices
import Derived.SizedLaws
/- Arguments that came in: slices of ints, of slices, of steps, as they read. -/
set_option linter.unusedVariables false
namespace Go.Proofs.Ytjedgdamommgeaa
open Go.RowKit Go.Deep Go.ChangeShapes Go.WideShapes Go.ChangeAt

theorem cellsOf_int : Try.prog.cellsOf 3 = 1 := by kernel_rfl
theorem cellsOf_sl : Try.prog.cellsOf 23 = 1 := by kernel_rfl

section
variable {H : Type} {enc : TypeId × Value → H} {w : World} {base : Nat} {spare : Nat → Bool} {held : Bool} {fuel : Nat} {x : DataW H × List MemPlace}

theorem getD_range_map {α : Type} (f : Nat → α) (d : α) {n i : Nat} (h : i < n) : ((List.range n).map f).getD i d = f i := by
  simp [List.getD_eq_getElem?_getD, h]

theorem spot_none {a : Addr} {n : Nat} {u : Nat → Value} (h : ∀ i, i < n → w.cell? (a.add i) = some (u i)) (hn : 0 < n) : ∃ b off, a = ⟨b, off, none⟩ ∧ b < w.heap.size ∧ ∀ i, i < n → w.cell? ⟨b, off + i, none⟩ = some (u i) := by
  obtain ⟨blk, off, spot⟩ := a
  have hspot : spot = none := by
    have := h 0 hn
    simpa [Addr.add] using World.cell?_spot this
  subst hspot
  refine ⟨blk, off, rfl, ?_, fun i hi => ?_⟩
  · have := World.block_lt_of_cell? _ _ (h 0 hn)
    simpa [Addr.add] using this
  · have := h i hi
    simpa only [Go.WideShapes.add_plain] using this

theorem ints_of {v : Value} (h : DataW.trod enc Try.prog w base spare held fuel 23 [v] = some x) : ∃ xs, Ints w v xs := by
  rcases open_slice1 Try.underlying23 cellsOf_int h with ⟨hcs, _⟩ | ⟨a, len, cap, m, n, V, D, Pl, hcs, hb, hl, hm, hmm, hx, hi⟩
  · simp at hcs
    subst hcs
    exact ⟨[], ⟨none, 0, rfl, Nat.le_refl _, by decide⟩, fun _ _ _ _ hp => by simp at hp, (fun x hx => by cases hx), fun len cap hv => by simp at hv; omega⟩
  · simp at hcs
    subst hcs
    have hlm : len ≤ m := by rw [hmm]; split <;> omega
    obtain ⟨f, hf⟩ := choose_lt (α := Int) (n := len) (p := fun i z => V i = .int .i64 z ∧ InI64 z) (fun i hil => by
      obtain ⟨h1, h2⟩ := hi i (by omega)
      obtain ⟨k, e, _, wf⟩ := DataW.trod_int Try.underlying3 h2
      simp at e
      exact ⟨k, e, bounds_i64 wf⟩)
    have hc : ∀ i, i < len → w.cell? (a.add i) = some (.int .i64 (f i)) := fun i hil => by
      rw [(hi i (by omega)).1, (hf i hil).1]
    unfold maxLen at hm
    refine ⟨(List.range len).map f, ⟨some a, cap, by simp, by simp; omega, by omega⟩, fun ao len' cap' hv hp => ?_, fun x hx => ?_, fun len' cap' hv => by simp at hv⟩
    · simp only [List.length_map, List.length_range] at hp ⊢
      obtain ⟨b, off, rfl, hbl, hcc⟩ := spot_none hc hp
      simp only [Value.slice.injEq] at hv
      obtain ⟨rfl, -, -⟩ := hv
      refine ⟨b, off, rfl, hbl, fun i hi => ?_⟩
      rw [hcc i hi, getD_range_map f 0 hi]
    · obtain ⟨i, hi, rfl⟩ := List.mem_map.1 hx
      exact (hf i (List.mem_range.1 hi)).2

theorem ints_of' {cs : List Value} (h : DataW.trod enc Try.prog w base spare held fuel 23 cs = some x) : ∃ v xs, cs = [v] ∧ Ints w v xs := by
  have hcs : ∃ v, cs = [v] := by
    rcases open_slice1 Try.underlying23 cellsOf_int h with ⟨hcs, _⟩ | ⟨a, len, cap, m, n, V, D, Pl, hcs, _⟩
    · exact ⟨_, hcs⟩
    · exact ⟨_, hcs⟩
  obtain ⟨v, rfl⟩ := hcs
  obtain ⟨xs, hx⟩ := ints_of h
  exact ⟨v, xs, rfl, hx⟩

theorem intsS_of {v : Value} (h : DataW.trod enc Try.prog w base spare held fuel 22 [v] = some x) : ∃ css, IntsS w v css := by
  rcases open_slice1 Try.underlying22 cellsOf_sl h with ⟨hcs, _⟩ | ⟨a, len, cap, m, n, V, D, Pl, hcs, hb, hl, hm, hmm, hx, hi⟩
  · simp at hcs
    subst hcs
    exact ⟨[], [], ⟨⟨none, 0, rfl, Nat.le_refl _, by decide⟩, fun _ _ _ _ hp => by simp at hp, fun len cap hv => by simp at hv; omega⟩, rfl, fun i hi => by simp at hi⟩
  · simp at hcs
    subst hcs
    have hlm : len ≤ m := by rw [hmm]; split <;> omega
    obtain ⟨f, hf⟩ := choose_lt (α := List Int) (n := len) (p := fun i xs => Ints w (V i) xs) (fun i hil => ints_of (hi i (by omega)).2)
    have hc : ∀ i, i < len → w.cell? (a.add i) = some (V i) := fun i hil => (hi i (by omega)).1
    unfold maxLen at hm
    refine ⟨(List.range len).map f, (List.range len).map V, ⟨⟨some a, cap, by simp, by simp; omega, by omega⟩, fun ao len' cap' hv hp => ?_, fun len' cap' hv => by simp at hv⟩, by simp, fun i hi => ?_⟩
    · simp only [List.length_map, List.length_range] at hp ⊢
      obtain ⟨b, off, rfl, hbl, hcc⟩ := spot_none hc hp
      simp only [Value.slice.injEq] at hv
      obtain ⟨rfl, -, -⟩ := hv
      refine ⟨b, off, rfl, hbl, fun i hi => ?_⟩
      rw [hcc i hi, getD_range_map V nilS hi]
    · simp only [List.length_map, List.length_range] at hi
      rw [getD_range_map V nilS hi, getD_range_map f [] hi]
      exact hf i hi
end
end Go.Proofs.Ytjedgdamommgeaa

/- A slice of ints that is handed in: how long it is, by its datum (for the form's own reach). -/
namespace Go.Proofs.Ytjedgdamommgeaa
open Go.RowKit
open Go.Deep

theorem bytes_int : Try.prog.bytesOf 3 = 8 := by kernel_rfl

section
variable {H : Type} {enc : TypeId × Value → H} {w : World} {base : Nat} {spare : Nat → Bool} {held : Bool} {fuel : Nat} {x : DataW H × List MemPlace}

theorem ints_reach {v : Value} (h : DataW.trod enc Try.prog w base spare held fuel 23 [v] = some x) : ∃ xs, Ints w v xs ∧ (xs = [] ∨ ∃ el sp, x.1 = .slice el sp ∧ el.length = xs.length) := by
  obtain ⟨xs, hI⟩ := ints_of h
  refine ⟨xs, hI, ?_⟩
  obtain ⟨ao, cap0, hv, -, -⟩ := hI.shape
  rcases open_slice1 Try.underlying23 cellsOf_int h with ⟨hcs, _⟩ | ⟨a, len, cap, m, n, V, D, Pl, hcs, hb, hl, hm, hmm, hx, hi⟩
  · simp at hcs
    rw [hcs] at hv
    simp at hv
    exact .inl (List.eq_nil_of_length_eq_zero hv.2.1.symm)
  · simp at hcs
    rw [hcs] at hv
    simp at hv
    refine .inr ⟨_, _, by rw [hx], ?_⟩
    simp [hv.2.1]

theorem ints_reach_len {ts : List TypeId} {ds : List (DataW H)} {j : Nat} (hsz : (DataW.weightsEach Try.prog ts ds).all (· ≤ reachBytes) = true) (ht : ts[j]? = some 23) (hd : ds[j]? = some x.1) {xs : List Int} (h : xs = [] ∨ ∃ el sp, x.1 = .slice el sp ∧ el.length = xs.length) : xs.length ≤ 17592186043904 := by
  rcases h with rfl | ⟨el, sp, he, hl⟩
  · simp
  · rw [he] at hd
    have := sized_slice hsz ht hd Try.underlying23
    rw [bytes_int] at this
    simp only [reachBytes] at this
    omega

theorem intsS_reach {v : Value} (h : DataW.trod enc Try.prog w base spare held fuel 22 [v] = some x) :
    ∃ css, IntsS w v css ∧ (css = [] ∨ ∃ el sp, x.1 = .slice el sp ∧ ∀ c ∈ css, c = [] ∨ ∃ e' s', DataW.slice e' s' ∈ el ∧ e'.length = c.length) := by
  rcases open_slice1 Try.underlying22 cellsOf_sl h with ⟨hcs, _⟩ | ⟨a, len, cap, m, n, V, D, Pl, hcs, hb, hl, hm, hmm, hx, hi⟩
  · simp at hcs
    subst hcs
    exact ⟨[], ⟨[], ⟨⟨none, 0, rfl, Nat.le_refl _, by decide⟩, fun _ _ _ _ hp => by simp at hp, fun len cap hv => by simp at hv; omega⟩, rfl, fun i hi => by simp at hi⟩, .inl rfl⟩
  · simp at hcs
    subst hcs
    have hlm : len ≤ m := by rw [hmm]; split <;> omega
    obtain ⟨f, hf⟩ := choose_lt (α := List Int) (n := len) (p := fun i xs => Ints w (V i) xs ∧ (xs = [] ∨ ∃ el sp, D i = .slice el sp ∧ el.length = xs.length)) (fun i hil => ints_reach (hi i (by omega)).2)
    have hc : ∀ i, i < len → w.cell? (a.add i) = some (V i) := fun i hil => (hi i (by omega)).1
    unfold maxLen at hm
    refine ⟨(List.range len).map f, ⟨(List.range len).map V, ⟨⟨some a, cap, by simp, by simp; omega, by omega⟩, fun ao len' cap' hv hp => ?_, fun len' cap' hv => by simp at hv⟩, by simp, fun i hi => ?_⟩, .inr ⟨_, _, by rw [hx], fun c hc2 => ?_⟩⟩
    · simp only [List.length_map, List.length_range] at hp ⊢
      obtain ⟨b, off, rfl, hbl, hcc⟩ := spot_none hc hp
      simp only [Value.slice.injEq] at hv
      obtain ⟨rfl, -, -⟩ := hv
      refine ⟨b, off, rfl, hbl, fun i hi => ?_⟩
      rw [hcc i hi, getD_range_map V nilS hi]
    · simp only [List.length_map, List.length_range] at hi
      rw [getD_range_map V nilS hi, getD_range_map f [] hi]
      exact (hf i hi).1
    · obtain ⟨i, hi2, rfl⟩ := List.mem_map.1 hc2
      rw [List.mem_range] at hi2
      rcases (hf i hi2).2 with h1 | ⟨el, sp, h1, h2⟩
      · exact .inl h1
      · exact .inr ⟨el, sp, List.mem_map.2 ⟨i, List.mem_range.2 hi2, h1⟩, h2⟩

theorem weightsAll_memR {P : Program} {e : TypeId} : ∀ {l : List (DataW H)} {d : DataW H}, d ∈ l → ∀ n ∈ d.weights P e, n ∈ DataW.weightsAll P e l
  | d' :: r, d, hd, n, hn => by
    simp only [DataW.weightsAll, List.mem_append]
    rcases List.mem_cons.1 hd with rfl | hd
    · exact .inl hn
    · exact .inr (weightsAll_memR hd n hn)

theorem intsS_reach_len {ts : List TypeId} {ds : List (DataW H)} {j : Nat} (hsz : (DataW.weightsEach Try.prog ts ds).all (· ≤ reachBytes) = true) (ht : ts[j]? = some 22) (hd : ds[j]? = some x.1) {css : List (List Int)}
    (h : css = [] ∨ ∃ el sp, x.1 = .slice el sp ∧ ∀ c ∈ css, c = [] ∨ ∃ e' s', DataW.slice e' s' ∈ el ∧ e'.length = c.length) : ∀ c ∈ css, c.length ≤ 17592186043904 := by
  intro c hc
  rcases h with rfl | ⟨el, sp, he, h2⟩
  · cases hc
  · rcases h2 c hc with rfl | ⟨e', s', hm, hl⟩
    · simp
    · rw [he] at hd
      have := of_decide_eq_true (List.all_eq_true.1 hsz _ (DataW.weights_mem_each ht hd ((e'.length + s'.length) * Try.prog.bytesOf 3) (by
        simp only [DataW.weights, Try.underlying22, List.mem_cons, List.mem_append]
        exact .inr (.inl (weightsAll_memR hm _ (by simp [DataW.weights, Try.underlying23]))))))
      rw [bytes_int] at this
      simp only [reachBytes] at this
      omega
end
end Go.Proofs.Ytjedgdamommgeaa


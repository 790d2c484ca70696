/- The form of a clause in plain Lean: strictly sorted, with the same members; it is unique. -/
import Derived.Test.YtjbfgafkjejdjaaCnfFn
namespace Go.Proofs.Ytjbfgafkjejdjaa
open Go.RowKit Go.Lib Go.Sort Go.Shelf
namespace Cnf

def Strict (l : List Int) : Prop := l.Pairwise fun x y => lt x y = true

theorem sortL_perm (xs : List Int) : (sortL xs).Perm xs := List.mergeSort_perm xs _

theorem sortL_sorted (xs : List Int) : (sortL xs).Pairwise fun x y => lt y x = false := by
  have h := List.pairwise_mergeSort (le := fun x y => !(ltOf cf) y x) (l := xs)
    (by intro a b c h1 h2
        simp only [Bool.not_eq_true'] at *
        exact swo.ntrans c b a h2 h1)
    (by intro a b
        simp only [Bool.or_eq_true, Bool.not_eq_true']
        rw [lt_eq, lt_eq, lt_not, lt_not]; omega)
  exact h.imp (by intro a b h; simpa [lt_eq] using h)

theorem sorted_get {l : List Int} (h : l.Pairwise fun x y => lt y x = false) {i j : Nat} (hij : i < j) (hj : j < l.length) : lt (l.getD j 0) (l.getD i 0) = false := by
  have := (List.pairwise_iff_getElem.1 h) i j (by omega) hj hij
  simpa [List.getD_eq_getElem?_getD, hj, show i < l.length by omega] using this

theorem keeps_iff (l : List Int) (j : Nat) (hj : j < l.length) : Lib.keeps l.toArray j = true ↔ j = 0 ∨ l.getD j 0 ≠ l.getD (j - 1) 0 := by
  unfold Lib.keeps
  simp only [decide_eq_true_eq]
  have h1 : l.toArray[j]! = l.getD j 0 := by simp [hj, List.getD_eq_getElem?_getD]
  have h2 : l.toArray[j - 1]! = l.getD (j - 1) 0 := by simp [show j - 1 < l.length by omega, List.getD_eq_getElem?_getD]
  rw [h1, h2]

theorem compact_strict {l : List Int} (h : l.Pairwise fun x y => lt y x = false) : Strict (Lib.compact l) := by
  unfold Strict Lib.compact Lib.compactUpTo
  rw [List.pairwise_map]
  have hr : (List.range l.length).Pairwise (· < ·) := List.pairwise_lt_range
  have hf := (hr.filter (Lib.keeps l.toArray))
  refine hf.imp_of_mem ?_
  intro i j hi hj hij
  obtain ⟨hi1, hi2⟩ := List.mem_filter.1 hi
  obtain ⟨hj1, hj2⟩ := List.mem_filter.1 hj
  rw [List.mem_range] at hi1 hj1
  have e1 : l.toArray[i]! = l.getD i 0 := by simp [hi1, List.getD_eq_getElem?_getD]
  have e2 : l.toArray[j]! = l.getD j 0 := by simp [hj1, List.getD_eq_getElem?_getD]
  rw [e1, e2]
  have hk := (keeps_iff l j hj1).1 hj2
  have hne : l.getD j 0 ≠ l.getD (j - 1) 0 := by
    rcases hk with hk | hk
    · omega
    · exact hk
  have h1 := sorted_get h (i := j - 1) (j := j) (by omega) hj1
  rw [lt_not] at h1
  rw [lt_iff]
  by_cases e : i = j - 1
  · subst e; omega
  · have h2 := sorted_get h (i := i) (j := j - 1) (by omega) (by omega)
    rw [lt_not] at h2
    omega

theorem mem_compact (l : List Int) (x : Int) : x ∈ Lib.compact l ↔ x ∈ l := by
  unfold Lib.compact Lib.compactUpTo
  constructor
  · intro hx
    obtain ⟨i, hi, rfl⟩ := List.mem_map.1 hx
    have hi1 := (List.mem_filter.1 hi).1
    rw [List.mem_range] at hi1
    simp [hi1]
  · intro hx
    -- the first place where it stands
    have key : ∀ n, ∀ i, i = n → i < l.length → l.getD i 0 = x → ∃ j, j < l.length ∧ Lib.keeps l.toArray j = true ∧ l.getD j 0 = x := by
      intro n
      induction n with
      | zero => intro i hi hl he; subst hi; exact ⟨0, hl, (keeps_iff l 0 hl).2 (.inl rfl), he⟩
      | succ n ih =>
        intro i hi hl he
        subst hi
        by_cases hk : l.getD (n + 1) 0 = l.getD n 0
        · exact ih n rfl (by omega) (by rw [← hk]; exact he)
        · exact ⟨n + 1, hl, (keeps_iff l (n + 1) hl).2 (.inr (by simpa using hk)), he⟩
    obtain ⟨i, hi, rfl⟩ := List.getElem_of_mem hx
    obtain ⟨j, hj1, hj2, hj3⟩ := key i i rfl hi (by simp [List.getD_eq_getElem?_getD, hi])
    rw [List.mem_map]
    refine ⟨j, List.mem_filter.2 ⟨by simpa using hj1, hj2⟩, ?_⟩
    rw [← hj3]
    simp [hj1, List.getD_eq_getElem?_getD]

theorem formL_strict (xs : List Int) : Strict (formL xs) := compact_strict (sortL_sorted xs)
theorem mem_formL (xs : List Int) (x : Int) : x ∈ formL xs ↔ x ∈ xs := by
  unfold formL
  rw [mem_compact]
  exact (sortL_perm xs).mem_iff

/-- A strictly sorted list is told by its members. -/
theorem strict_ext : ∀ {a b : List Int}, Strict a → Strict b → (∀ x, x ∈ a ↔ x ∈ b) → a = b
  | [], [], _, _, _ => rfl
  | [], y :: b, _, _, h => absurd ((h y).2 (List.mem_cons_self ..)) (by simp)
  | x :: a, [], _, _, h => absurd ((h x).1 (List.mem_cons_self ..)) (by simp)
  | x :: a, y :: b, ha, hb, h => by
    unfold Strict at ha hb
    rw [List.pairwise_cons] at ha hb
    have hxy : x = y := by
      have h1 := (h x).1 (List.mem_cons_self ..)
      have h2 := (h y).2 (List.mem_cons_self ..)
      rcases List.mem_cons.1 h1 with e | h1
      · exact e
      · rcases List.mem_cons.1 h2 with e | h2
        · exact e.symm
        · have k1 := ha.1 y h2
          have k2 := hb.1 x h1
          rw [lt_iff] at k1 k2; omega
    subst hxy
    have irr : ∀ z, lt z z = false := fun z => by rw [lt_not]; omega
    rw [strict_ext ha.2 hb.2 fun z => ?_]
    have hz := h z
    simp only [List.mem_cons] at hz
    constructor
    · intro hza
      rcases hz.1 (.inr hza) with e | e
      · subst e; have := ha.1 z hza; rw [irr] at this; cases this
      · exact e
    · intro hzb
      rcases hz.2 (.inr hzb) with e | e
      · subst e; have := hb.1 z hzb; rw [irr] at this; cases this
      · exact e

end Cnf
end Go.Proofs.Ytjbfgafkjejdjaa

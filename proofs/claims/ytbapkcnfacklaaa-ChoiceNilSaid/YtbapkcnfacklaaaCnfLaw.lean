/- The form of a clause in plain Lean: strictly sorted, with the same members; it is unique. -/
import Derived.Test.YtbapkcnfacklaaaCnfFn
set_option linter.unusedVariables false
namespace Go.Proofs.Ytbapkcnfacklaaa
open Go.RowKit Go.Lib Go.Sort Go.Shelf
namespace Cnf
theorem sortL_perm (xs : List Int) : (sortL xs).Perm xs := List.mergeSort_perm xs _
theorem keeps_iff (l : List Int) (j : Nat) (hj : j < l.length) : Lib.keeps l.toArray j = true ↔ j = 0 ∨ l.getD j 0 ≠ l.getD (j - 1) 0 := by
 unfold Lib.keeps
 simp only [decide_eq_true_eq]
 have h1 : l.toArray[j]! = l.getD j 0 := by simp [hj, List.getD_eq_getElem?_getD]
 have h2 : l.toArray[j - 1]! = l.getD (j - 1) 0 := by simp [show j - 1 < l.length by omega, List.getD_eq_getElem?_getD]
 rw [h1, h2]
theorem mem_compact (l : List Int) (x : Int) : x ∈ Lib.compact l ↔ x ∈ l := by
 unfold Lib.compact Lib.compactUpTo
 constructor
 ·intro hx
  obtain ⟨i, hi, rfl⟩ := List.mem_map.1 hx
  have hi1 := (List.mem_filter.1 hi).1
  rw [List.mem_range] at hi1
  simp [hi1]
 ·intro hx
  -- the first place where it stands
  have key : ∀ n, ∀ i, i = n → i < l.length → l.getD i 0 = x → ∃ j, j < l.length ∧ Lib.keeps l.toArray j = true ∧ l.getD j 0 = x := by
   intro n
   induction n with
   | zero => intro i hi hl he; subst hi; exact ⟨0, hl, (keeps_iff l 0 hl).2 (.inl rfl), he⟩
   | succ n ih =>
    intro i hi hl he
    subst hi
    by_cases hk : l.getD (n + 1) 0 = l.getD n 0
    ·exact ih n rfl (by omega) (by rw [← hk]; exact he)
    ·exact ⟨n + 1, hl, (keeps_iff l (n + 1) hl).2 (.inr (by simpa using hk)), he⟩
  obtain ⟨i, hi, rfl⟩ := List.getElem_of_mem hx
  obtain ⟨j, hj1, hj2, hj3⟩ := key i i rfl hi (by simp [List.getD_eq_getElem?_getD, hi])
  rw [List.mem_map]
  refine ⟨j, List.mem_filter.2 ⟨by simpa using hj1, hj2⟩, ?_⟩
  rw [← hj3]
  simp [hj1, List.getD_eq_getElem?_getD]
theorem mem_formL (xs : List Int) (x : Int) : x ∈ formL xs ↔ x ∈ xs := by
 unfold formL
 rw [mem_compact]
 exact (sortL_perm xs).mem_iff
end Cnf
end Go.Proofs.Ytbapkcnfacklaaa

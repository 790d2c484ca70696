/- When a clause has a form, and which: by its members. -/
import Derived.Test.YtjbfgafkjejdjaaCnfLaw
namespace Go.Proofs.Ytjbfgafkjejdjaa
open Go.RowKit Go.Lib Go.Sort Go.Shelf
namespace Cnf

/-- a literal of 64 bits -/
structure Lit (x : Int) : Prop where
  r : InI64 x
  w : wr x = false

theorem Lit.ne0 {x : Int} (h : Lit x) : x ≠ 0 := by
  intro e; subst e; have := h.w; revert this; decide
theorem Lit.lo {x : Int} (h : Lit x) : -9223372036854775807 ≤ x ∧ x ≤ 9223372036854775807 := by
  have h1 := h.r
  have h2 : x ≠ minI := by
    intro e
    have := h.w
    unfold wr at this
    rw [e] at this
    simp at this
  unfold minI at h2
  unfold InI64 at h1
  omega
theorem Lit.neg {x : Int} (h : Lit x) : Lit (-x) := by
  have h1 := h.lo
  have h2 := h.ne0
  refine ⟨by unfold InI64; omega, ?_⟩
  unfold wr minI
  simp only [Bool.or_eq_false_iff, beq_eq_false_iff_ne]
  omega
theorem Lit.wrap {x : Int} (h : Lit x) : IntKind.i64.wrap (-x) = -x := IntWalk.i64_in _ (by have := h.lo; omega)
theorem Lit.abs {x : Int} (h : Lit x) : absW x = x.natAbs := by
  unfold absW
  rw [h.wrap]; omega

def AbsStrict (l : List Int) : Prop := l.Pairwise fun x y => x.natAbs < y.natAbs

theorem AbsStrict.strict {l : List Int} (h : AbsStrict l) (hl : ∀ x ∈ l, Lit x) : Strict l := by
  unfold AbsStrict at h
  unfold Strict
  refine h.imp_of_mem ?_
  intro a b ha hb hab
  rw [lt_iff, (hl a ha).abs, (hl b hb).abs]
  omega

theorem any_wr {xs : List Int} (h : ∀ x ∈ xs, Lit x) : xs.any wr = false := by
  rw [← Bool.not_eq_true, List.any_eq_true]
  rintro ⟨x, hx, hw⟩
  rw [(h x hx).w] at hw; cases hw

theorem clash_false_of {l : List Int} (h : AbsStrict l) (hl : ∀ x ∈ l, Lit x) : clash l = false := by
  unfold clash
  rw [← Bool.not_eq_true, List.any_eq_true]
  rintro ⟨i, hi, hc⟩
  simp only [Bool.and_eq_true, decide_eq_true_eq, beq_iff_eq] at hc
  rw [List.mem_range] at hi
  obtain ⟨h1, h2⟩ := hc
  have e1 : l.getD i 0 = l[i] := by simp [List.getD_eq_getElem?_getD, hi]
  have e2 : l.getD (i - 1) 0 = l[i - 1] := by simp [List.getD_eq_getElem?_getD, show i - 1 < l.length by omega]
  have h3 := (List.pairwise_iff_getElem.1 h) (i - 1) i (by omega) hi (by omega)
  rw [e1, e2, (hl _ (List.getElem_mem (by omega))).wrap] at h2
  rw [h2] at h3
  omega

/-- THE FORM BY ITS MEMBERS. -/
theorem form_some {xs o : List Int} (hx : ∀ x ∈ xs, Lit x) (ho : AbsStrict o) (hm : ∀ y, y ∈ o ↔ y ∈ xs) : form xs = some o := by
  have hl : ∀ x ∈ o, Lit x := fun x h => hx x ((hm x).1 h)
  have e : formL xs = o := strict_ext (formL_strict xs) (ho.strict hl) (fun y => (mem_formL xs y).trans (hm y).symm)
  unfold form
  rw [any_wr hx, e, clash_false_of ho hl]
  rfl

theorem form_wrong {xs : List Int} {x : Int} (hx : x ∈ xs) (hw : wr x = true) : form xs = none := by
  unfold form
  rw [if_pos (List.any_eq_true.2 ⟨x, hx, hw⟩)]

theorem form_opp {xs : List Int} (hx : ∀ x ∈ xs, InI64 x) {x : Int} (h1 : x ∈ xs) (h2 : -x ∈ xs) : form xs = none := by
  by_cases hany : xs.any wr = true
  · unfold form; rw [if_pos hany]
  have hl : ∀ y ∈ xs, Lit y := fun y hy => ⟨hx y hy, by
    cases h : wr y
    · rfl
    · exact (hany (List.any_eq_true.2 ⟨y, hy, h⟩)).elim⟩
  have hf : ∀ y ∈ formL xs, Lit y := fun y hy => hl y ((mem_formL xs y).1 hy)
  unfold form
  rw [if_neg hany, if_pos]
  have m1 := (mem_formL xs x).2 h1
  have m2 := (mem_formL xs (-x)).2 h2
  obtain ⟨i, hi, ei⟩ := List.getElem_of_mem m1
  obtain ⟨j, hj, ej⟩ := List.getElem_of_mem m2
  have hs := formL_strict xs
  generalize formL xs = l at *
  have key : ∀ i j, (hi : i < l.length) → (hj : j < l.length) → i < j → l[j] = -l[i] → clash l = true := by
    intro i j hi hj hij e
    have hP := List.pairwise_iff_getElem.1 hs
    have hj1 : j = i + 1 := by
      apply Classical.byContradiction
      intro hne
      have q1 := hP i (i + 1) hi (by omega) (by omega)
      have q2 := hP (i + 1) j (by omega) hj (by omega)
      have b1 := (hf _ (List.getElem_mem hi)).abs
      have b2 := (hf _ (List.getElem_mem (show i + 1 < l.length by omega))).abs
      have b3 := (hf _ (List.getElem_mem hj)).abs
      rw [lt_iff, b1, b2] at q1
      rw [lt_iff, b2, b3] at q2
      rw [e] at q2
      omega
    subst hj1
    unfold clash
    rw [List.any_eq_true]
    refine ⟨i + 1, by simpa using hj, ?_⟩
    have e1 : l.getD (i + 1) 0 = l[i + 1] := by simp [List.getD_eq_getElem?_getD, hj]
    have e2 : l.getD (i + 1 - 1) 0 = l[i] := by simp [List.getD_eq_getElem?_getD, hi]
    rw [e1, e2, (hf _ (List.getElem_mem hi)).wrap, e]
    simp
  rcases Nat.lt_trichotomy i j with c | c | c
  · exact key i j hi hj c (by rw [ei, ej])
  · subst c
    have : x = -x := ei.symm.trans ej
    have := (hl x h1).ne0
    omega
  · exact key j i hj hi c (by rw [ei, ej]; omega)

end Cnf
end Go.Proofs.Ytjbfgafkjejdjaa

/- What is read of a part: a number that is written back as it was, or letters. -/
import Derived.Test.YtmlfchjompfmaaaDoorVnP2
set_option linter.unusedVariables false
namespace Go.Proofs.YtmlfchjompfmaaaDoor
namespace Vn
open Go.Lib
theorem partB_num {l : List UInt8} {v : Int} (h : atoiAll l = .ok v) : partB l = (decide (0 ≤ v) && decide (v ≤ 999999999) && decide (itoa v = l)) := by
 have hl : lts l = false := by
  cases hh : lts l with
  | false => rfl
  | true => rw [lts_bad hh] at h; exact nomatch h
 unfold partB
 rw [hl, Bool.false_or]
 cases hn : numB l with
 | true =>
  obtain ⟨h1, h2, h3⟩ := num_read hn
  rw [h1] at h
  cases h
  rw [h3, decide_eq_true (by omega), decide_eq_true h2, decide_eq_true rfl]
  rfl
 | false =>
  symm
  by_cases c1 : 0 ≤ v
  ·by_cases c2 : v ≤ 999999999
   ·rw [decide_eq_false (p := itoa v = l) (fun e => by rw [read_num c1 c2 e] at hn; cases hn), Bool.and_false]
   ·rw [decide_eq_false c2, Bool.and_false, Bool.false_and]
  ·rw [decide_eq_false c1, Bool.false_and, Bool.false_and]
theorem part_num {l : List UInt8} {v : Int} (h : atoiAll l = .ok v) (hp : partB l = true) : rankOf l = 2 ∧ (numOf l : Int) = v ∧ wordOf l = [] := by
 have hl : lts l = false := by
  cases hh : lts l with
  | false => rfl
  | true => rw [lts_bad hh] at h; exact nomatch h
 have hn : numB l = true := by
  unfold partB at hp
  rw [hl, Bool.false_or] at hp
  exact hp
 have hne : l ≠ [] := part_ne hp
 have h1 := (num_read hn).1
 rw [h] at h1
 unfold rankOf numOf wordOf
 rw [if_neg hne, if_neg hne, hl]
 simp only [Bool.false_eq_true, if_false]
 refine ⟨trivial, ?_, trivial⟩
 cases h1
 rfl
theorem partB_word {l : List UInt8} (h : ∀ v, atoiAll l ≠ .ok v) : partB l = lts l := by
 unfold partB
 cases hn : numB l with
 | true => exact absurd (num_read hn).1 (h _)
 | false => rw [Bool.or_false]
theorem part_word {l : List UInt8} (hp : lts l = true) : rankOf l = 0 ∧ numOf l = 0 ∧ wordOf l = l := by
 have hne : l ≠ [] := by rintro rfl; revert hp; decide
 unfold rankOf numOf wordOf
 rw [if_neg hne, if_neg hne, if_pos hp, if_pos hp, if_pos hp]
 exact ⟨rfl, rfl, rfl⟩
end Vn
end Go.Proofs.YtmlfchjompfmaaaDoor

/- The walk of cooperlaw22.RupFollows. -/
import Derived.Test.YtjedgdamommgeaaGreatRupL2
set_option linter.unusedVariables false
namespace Go.Proofs.YtjedgdamommgeaaGreat
open Go.RowKit
theorem greatB_le {css : List (List Int)} {ps : List (Bool × List Int)} (h : greatB css ps = false) : css.length ≤ 80 ∧ ps.length ≤ 60 ∧ (∀ c ∈ css, c.length ≤ 12) ∧ ∀ p ∈ ps, p.2.length ≤ 12 := by
 unfold greatB at h
 simp only [Bool.or_eq_false_iff, decide_eq_false_iff_not, List.any_eq_false, decide_eq_true_eq] at h
 obtain ⟨⟨⟨h1, h2⟩, h3⟩, h4⟩ := h
 exact ⟨by omega, by omega, fun c hc => by have := h3 c hc; omega, fun p hp => by have := h4 p hp; omega⟩
theorem IntsS.range {w : World} {v : Value} {css : List (List Int)} (h : IntsS w v css) : ∀ c ∈ css, ∀ x ∈ c, InI64 x := by
 intro c hc
 obtain ⟨us, _, h2⟩ := h
 obtain ⟨i, hi, rfl⟩ := List.getElem_of_mem hc
 have := (h2.2 i hi).range
 simpa [List.getD_eq_getElem?_getD, hi] using this
section
variable {w : World}
end
end Go.Proofs.YtjedgdamommgeaaGreat

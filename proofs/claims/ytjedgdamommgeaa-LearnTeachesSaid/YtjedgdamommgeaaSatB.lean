/- What is derived is so in each model. -/
import Derived.Test.YtjedgdamommgeaaRef12S
import Derived.Test.YtjedgdamommgeaaUpA
import Derived.Test.YtjedgdamommgeaaCnfA
set_option linter.unusedVariables false
namespace Go.Proofs.Ytjedgdamommgeaa
namespace Rup
open Cnf

theorem so_neg {x : Int} (h : Cnf.Lit x) (m : List Bool) : soB (-x) m = !soB x m := by
  unfold soB
  rw [h.neg.w, h.w]
  simp only [Bool.false_eq_true, if_false, Int.natAbs_neg]
  have := h.ne0
  by_cases hx : x < 0
  · rw [if_neg (by omega), if_pos hx]; simp
  · rw [if_pos (by omega), if_neg hx]

/-- what is derived is so -/
theorem der_so {l : List Int} {cs : List (List Int)} {m : List Bool} (hlit : ∀ c ∈ cs, ∀ x ∈ c, Cnf.Lit x) (hl : ∀ x ∈ l, soB x m = true) (hc : ∀ c ∈ cs, ∃ x ∈ c, soB x m = true) {x : Int} (h : Up.Der l cs x) : soB x m = true :=
  h (fun x => soB x m = true) hl (fun c hcm z hz hy => by
    obtain ⟨y, hym, hys⟩ := hc c hcm
    by_cases e : y = z
    · subst e; exact hys
    · have h1 := hy y hym e
      rw [so_neg (hlit c hcm y hym), hys] at h1
      cases h1)

theorem conf_not {l : List Int} {cs : List (List Int)} {m : List Bool} (hlit : ∀ c ∈ cs, ∀ x ∈ c, Cnf.Lit x) (hl : ∀ x ∈ l, soB x m = true) (hc : ∀ c ∈ cs, ∃ x ∈ c, soB x m = true) : ¬ Up.Conf l cs := by
  rintro ⟨c, hcm, h⟩
  obtain ⟨y, hym, hys⟩ := hc c hcm
  have h1 := der_so hlit hl hc (h y hym)
  rw [so_neg (hlit c hcm y hym), hys] at h1
  cases h1

/-- each clause that is there is so in m -/
def Sat (cs : List (List Int)) (m : List Bool) : Prop := ∀ c ∈ cs, ∃ x ∈ c, soB x m = true

theorem holds_sat {cs : List (List Int)} {m : List Bool} (h : holdsB cs m = true) : Sat cs m := by
  intro c hc
  unfold holdsB at h
  rw [List.all_eq_true] at h
  have := h c hc
  rw [List.any_eq_true] at this
  exact this
end Rup
end Go.Proofs.Ytjedgdamommgeaa

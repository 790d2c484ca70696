/- The example of the chapter (cooperlaw19.fixed), in plain words. -/
import Derived.Test.YtjedgdamommgeaaLrn11
set_option linter.unusedVariables false
namespace Go.Proofs.Ytjedgdamommgeaa
open Go.RowKit
open Tr

namespace Tr
def ex19 : Trail := (((Tr.new 2).add [-1, 2]).add [-1, -2]).dec 1
theorem ex19_add1 : (Tr.new 2).addX [-1, 2] = (Tr.new 2).add [-1, 2] := addX_form (form_self (by decide) (by unfold Cnf.AbsStrict; decide)) (by decide)
theorem ex19_add2 : ((Tr.new 2).add [-1, 2]).addX [-1, -2] = ((Tr.new 2).add [-1, 2]).add [-1, -2] := addX_form (form_self (by decide) (by unfold Cnf.AbsStrict; decide)) (by decide)
theorem ex19_i0 : Inv (Tr.new 2) := Inv.new (by decide)
theorem ex19_i1 : Inv ((Tr.new 2).add [-1, 2]) := ex19_i0.add (good_of (by decide) (by decide)) (by decide)
theorem ex19_i2 : Inv (((Tr.new 2).add [-1, 2]).add [-1, -2]) := ex19_i1.add (good_of (by decide) (by decide)) (by decide)
theorem ex19_dec : (((Tr.new 2).add [-1, 2]).add [-1, -2]).decX 1 = ex19 ∧ (((Tr.new 2).add [-1, 2]).add [-1, -2]).decR 1 = true := by
  have h : (((Tr.new 2).add [-1, 2]).add [-1, -2]).is 1 = true ∧ (((Tr.new 2).add [-1, 2]).add [-1, -2]).val 1 = 0 := ⟨by decide, by decide⟩
  unfold Trail.decX Trail.decR
  rw [if_pos h, decide_eq_true h]
  exact ⟨rfl, rfl⟩
theorem ex19_i3 : Inv ex19 := ex19_i2.decide (by decide) (by decide)
theorem ex19_foll : ∃ p, ex19.follF 12 = some p ∧ p.2 = 1 ∧ p.1.lits = [1, 2] := ⟨_, rfl, by decide, by decide⟩
end Tr
end Go.Proofs.Ytjedgdamommgeaa

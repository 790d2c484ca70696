/- Cutting a text and joining it again: plain. -/
import Derived.Test.YtmlfchjompfmaaaGreatDoorVeA
set_option linter.unusedVariables false
namespace Go.Proofs.YtmlfchjompfmaaaGreatDoor
open Go.RowKit
open Vn (partB)
theorem may_parts {l : List UInt8} (h : mayB l = true) : ∀ a ∈ cutB 46 l, partB a = true := by
 unfold mayB at h
 simp only [Bool.and_eq_true, List.all_eq_true] at h
 exact h.1.2
end Go.Proofs.YtmlfchjompfmaaaGreatDoor

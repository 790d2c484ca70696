/- Cutting a text and joining it again: plain. -/
import Derived.Test.YtmlfchjompfmaaaDoorVeA
set_option linter.unusedVariables false
namespace Go.Proofs.YtmlfchjompfmaaaDoor
open Go.RowKit
open Vn (partB)
theorem may_parts {l : List UInt8} (h : mayB l = true) : ∀ a ∈ cutB 46 l, partB a = true := by
 unfold mayB at h
 simp only [Bool.and_eq_true, List.all_eq_true] at h
 exact h.1.2
def joinB (c : UInt8) : List (List UInt8) → List UInt8
 | [] => []
 | [a] => a
 | a :: b :: r => a ++ c :: joinB c (b :: r)
theorem join_cut (c : UInt8) : ∀ l : List UInt8, joinB c (cutB c l) = l
 | [] => rfl
 | b :: r => by
  have ih := join_cut c r
  unfold cutB
  by_cases h : b = c
  ·rw [if_pos h]
   cases hc : cutB c r with
   | nil => exact absurd hc (cutB_ne c r)
   | cons x t =>
    rw [hc] at ih
    show [] ++ c :: joinB c (x :: t) = _
    rw [ih, h]; rfl
  ·rw [if_neg h]
   cases hc : cutB c r with
   | nil => exact absurd hc (cutB_ne c r)
   | cons x t =>
    rw [hc] at ih
    cases t with
    | nil =>
     have : x = r := ih
     rw [this]; rfl
    | cons y t =>
     have : x ++ c :: joinB c (y :: t) = r := ih
     show (b :: x) ++ c :: joinB c (y :: t) = _
     rw [← this]; rfl
end Go.Proofs.YtmlfchjompfmaaaDoor

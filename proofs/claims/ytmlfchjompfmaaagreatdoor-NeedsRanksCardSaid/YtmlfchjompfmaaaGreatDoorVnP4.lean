/- The ranks of versions: plain. -/
import Derived.Test.YtmlfchjompfmaaaGreatDoorWv8
import Derived.Test.YtmlfchjompfmaaaGreatDoorVnJ
set_option linter.unusedVariables false
namespace Go.Proofs.YtmlfchjompfmaaaGreatDoor
open Go.RowKit
open Vn (partB plt vlt cmpTo atP okP)
theorem atP_over {x : List (List UInt8)} {j : Nat} (h : x.length ≤ j) : atP x j = [] := by
 rw [atP, List.getD_eq_getElem?_getD, List.getElem?_eq_none h]; rfl
theorem plt_asymm {a b : List UInt8} (h : plt a b) : ¬ plt b a := fun g => Vn.plt_irrefl _ (Vn.plt_trans h g)
theorem cmpTo_swap (x y : List (List UInt8)) : ∀ (k i : Nat), cmpTo x y k i = - cmpTo y x k i
 | 0, _ => rfl
 | k + 1, i => by
  unfold cmpTo
  by_cases c1 : plt (atP x i) (atP y i)
  ·rw [if_pos c1, if_neg (plt_asymm c1), if_pos c1]
  ·rw [if_neg c1]
   by_cases c2 : plt (atP y i) (atP x i)
   ·rw [if_pos c2, if_pos c2]; rfl
   ·rw [if_neg c2, if_neg c2, if_neg c1]
    exact cmpTo_swap x y k (i + 1)
theorem cmpV_neg {a b : List UInt8} (ha : mayB a = true) (hb : mayB b = true) : cmpV a b < 0 ↔ vlt (cutB 46 a) (cutB 46 b) := by
 unfold cmpV
 rw [if_pos ha, if_pos hb]
 exact Vn.cmpTo_neg _ _ (fun j hj => by omega) (fun j hj => by rw [atP_over (by omega), atP_over (by omega)]) (fun j => ⟨Vn.okP_at (may_parts ha) j, Vn.okP_at (may_parts hb) j⟩)
theorem cmpV_pos {a b : List UInt8} (ha : mayB a = true) (hb : mayB b = true) : 0 < cmpV a b ↔ vlt (cutB 46 b) (cutB 46 a) := by
 rw [← cmpV_neg hb ha]
 unfold cmpV
 rw [if_pos ha, if_pos hb, if_pos hb, if_pos ha, cmpTo_swap, Nat.max_comm]
 omega
theorem lessR_cmp {x y : List (List UInt8)} (h : ∀ j, okP (atP x j) ∧ okP (atP y j)) : ∀ (k i : Nat), lessR x y k i = true ↔ cmpTo x y k i < 0
 | 0, _ => by simp [lessR, cmpTo]
 | k + 1, i => by
  unfold lessR cmpTo
  have e1 : Vn.beB (x.getD i []) (y.getD i []) = true ↔ plt (atP x i) (atP y i) := Vn.beB_plt (h i).1 (h i).2
  have e2 : Vn.beB (y.getD i []) (x.getD i []) = true ↔ plt (atP y i) (atP x i) := Vn.beB_plt (h i).2 (h i).1
  by_cases c1 : plt (atP x i) (atP y i)
  ·rw [if_pos (e1.2 c1), if_pos c1]; simp
  ·rw [if_neg (fun g => c1 (e1.1 g)), if_neg c1]
   by_cases c2 : plt (atP y i) (atP x i)
   ·rw [if_pos (e2.2 c2), if_pos c2]; simp
   ·rw [if_neg (fun g => c2 (e2.1 g)), if_neg c2]
    exact lessR_cmp h k (i + 1)
theorem less_vlt {a b : List UInt8} (ha : mayB a = true) (hb : mayB b = true) : lessB a b = true ↔ vlt (cutB 46 a) (cutB 46 b) := by
 have hok : ∀ j, okP (atP (cutB 46 a) j) ∧ okP (atP (cutB 46 b) j) := fun j => ⟨Vn.okP_at (may_parts ha) j, Vn.okP_at (may_parts hb) j⟩
 rw [← cmpV_neg ha hb]
 unfold lessB cmpV
 rw [ha, hb, if_pos rfl, if_pos rfl, if_pos (by rfl)]
 exact lessR_cmp hok _ _
end Go.Proofs.YtmlfchjompfmaaaGreatDoor

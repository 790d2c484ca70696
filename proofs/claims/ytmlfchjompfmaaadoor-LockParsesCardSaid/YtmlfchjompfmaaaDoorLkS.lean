/- The library's splitting and cutting of texts, in the words of the locks' laws. No program in sight. -/
import Derived.Test.YtmlfchjompfmaaaDoorLkPA
import Derived.Lib.SplitLaws
import Derived.Lib.IndexBytes
import Derived.Lib.Strings
set_option linter.unusedVariables false
namespace Go.Proofs.YtmlfchjompfmaaaDoor.Lk
open Go.RowKit
open Vn (dgs lts isDg isLt partB numB)
theorem index_hit (c : UInt8) (l : By) : Lib.index (c :: l) [c] = 0 := by
 unfold Lib.index
 rw [if_pos (by simp)]
theorem index_next {b c : UInt8} (h : b ≠ c) (l : By) : Lib.index (b :: l) [c] = if Lib.index l [c] == -1 then -1 else Lib.index l [c] + 1 := by
 conv => lhs; unfold Lib.index
 rw [if_neg (by simp [Ne.symm h])]
theorem split_cut (c : UInt8) : ∀ l : By, Lib.splitK [c] 0 (Lib.count l [c]) l = cutB c l
 | [] => rfl
 | b :: r => by
  have ih := split_cut c r
  rw [Lib.count_one] at ih ⊢
  by_cases h : b = c
  ·subst h
   rw [List.count_cons_self]
   unfold Lib.splitK cutB
   rw [index_hit, if_neg (by decide), if_pos rfl, ← ih]
   rfl
  ·rw [List.count_cons_of_ne (by simpa using h)]
   unfold cutB
   rw [if_neg h]
   cases hk : r.count c with
   | zero =>
    rw [hk] at ih
    have e : cutB c r = [r] := ih.symm
    rw [e]; rfl
   | succ k =>
    rw [hk] at ih
    have hm : c ∈ r := by rw [← List.count_pos_iff]; omega
    have hi : Lib.index r [c] ≠ -1 := by
     intro e
     obtain ⟨s, t, rfl⟩ := List.append_of_mem hm
     have := Lib.index_spec (s ++ c :: t) [c]
     rcases this with ⟨_, h2⟩ | ⟨i, h2, _⟩
     ·have := h2 s.length (by simp)
      simp [Lib.occAt] at this
     ·omega
    have hge := Lib.index_ge r [c]
    have hn : Lib.index (b :: r) [c] = Lib.index r [c] + 1 := by rw [index_next h, if_neg (by simpa using hi)]
    unfold Lib.splitK at ih ⊢
    rw [hn, if_neg (by simp; omega)]
    rw [if_neg (by simpa using hi)] at ih
    rw [← ih]
    have e1 : (Lib.index r [c] + 1).toNat = (Lib.index r [c]).toNat + 1 := by omega
    rw [e1]
    simp
theorem cut_at (c : UInt8) : ∀ l : By, Lib.cut l [c] = match cutAt c l with | some p => (p.1, p.2, true) | none => (l, [], false)
 | [] => rfl
 | b :: r => by
  have ih := cut_at c r
  have hge := Lib.index_ge r [c]
  unfold Lib.cut at ih ⊢
  unfold cutAt
  by_cases h : b = c
  ·subst h
   rw [index_hit, if_pos rfl]
   simp
  ·rw [index_next h, if_neg h]
   by_cases hi : Lib.index r [c] = -1
   ·rw [hi] at ih ⊢
    simp only [show ¬ (0 : Int) ≤ -1 by decide, if_false] at ih
    cases hc : cutAt c r with
    | none => simp
    | some p => rw [hc] at ih; simp at ih
   ·rw [if_neg (show ¬ (Lib.index r [c] == -1) = true by simpa using hi), if_pos (by omega)]
    rw [if_pos (by omega)] at ih
    have e1 : (Lib.index r [c] + 1).toNat = (Lib.index r [c]).toNat + 1 := by omega
    cases hc : cutAt c r with
    | none => rw [hc] at ih; simp at ih
    | some p =>
     rw [hc] at ih
     simp only [Prod.mk.injEq] at ih
     rw [e1]
     simp only [Option.map_some, Prod.mk.injEq, List.take_succ_cons, ih.1, true_and, and_true]
     rw [← ih.2.1]
     simp
end Go.Proofs.YtmlfchjompfmaaaDoor.Lk

/- The ranks of versions: plain. -/
import Derived.Test.YtmlfchjompfmaaaDoorWv8
import Derived.Test.YtmlfchjompfmaaaDoorVnJ
set_option linter.unusedVariables false
namespace Go.Proofs.YtmlfchjompfmaaaDoor
open Go.RowKit
open Vn (partB plt vlt cmpTo atP okP)
theorem atP_over {x : List (List UInt8)} {j : Nat} (h : x.length ≤ j) : atP x j = [] := by
 rw [atP, List.getD_eq_getElem?_getD, List.getElem?_eq_none h]; rfl
theorem plt_asymm {a b : List UInt8} (h : plt a b) : ¬ plt b a := fun g => Vn.plt_irrefl _ (Vn.plt_trans h g)
theorem cmpTo_swap (x y : List (List UInt8)) : ∀ (k i : Nat), cmpTo x y k i = - cmpTo y x k i
 | 0, _ => rfl
 | k + 1, i => by
  unfold cmpTo
  by_cases c1 : plt (atP x i) (atP y i)
  ·rw [if_pos c1, if_neg (plt_asymm c1), if_pos c1]
  ·rw [if_neg c1]
   by_cases c2 : plt (atP y i) (atP x i)
   ·rw [if_pos c2, if_pos c2]; rfl
   ·rw [if_neg c2, if_neg c2, if_neg c1]
    exact cmpTo_swap x y k (i + 1)
theorem cmpV_neg {a b : List UInt8} (ha : mayB a = true) (hb : mayB b = true) : cmpV a b < 0 ↔ vlt (cutB 46 a) (cutB 46 b) := by
 unfold cmpV
 rw [if_pos ha, if_pos hb]
 exact Vn.cmpTo_neg _ _ (fun j hj => by omega) (fun j hj => by rw [atP_over (by omega), atP_over (by omega)]) (fun j => ⟨Vn.okP_at (may_parts ha) j, Vn.okP_at (may_parts hb) j⟩)
theorem cmpV_pos {a b : List UInt8} (ha : mayB a = true) (hb : mayB b = true) : 0 < cmpV a b ↔ vlt (cutB 46 b) (cutB 46 a) := by
 rw [← cmpV_neg hb ha]
 unfold cmpV
 rw [if_pos ha, if_pos hb, if_pos hb, if_pos ha, cmpTo_swap, Nat.max_comm]
 omega
theorem lessR_cmp {x y : List (List UInt8)} (h : ∀ j, okP (atP x j) ∧ okP (atP y j)) : ∀ (k i : Nat), lessR x y k i = true ↔ cmpTo x y k i < 0
 | 0, _ => by simp [lessR, cmpTo]
 | k + 1, i => by
  unfold lessR cmpTo
  have e1 : Vn.beB (x.getD i []) (y.getD i []) = true ↔ plt (atP x i) (atP y i) := Vn.beB_plt (h i).1 (h i).2
  have e2 : Vn.beB (y.getD i []) (x.getD i []) = true ↔ plt (atP y i) (atP x i) := Vn.beB_plt (h i).2 (h i).1
  by_cases c1 : plt (atP x i) (atP y i)
  ·rw [if_pos (e1.2 c1), if_pos c1]; simp
  ·rw [if_neg (fun g => c1 (e1.1 g)), if_neg c1]
   by_cases c2 : plt (atP y i) (atP x i)
   ·rw [if_pos (e2.2 c2), if_pos c2]; simp
   ·rw [if_neg (fun g => c2 (e2.1 g)), if_neg c2]
    exact lessR_cmp h k (i + 1)
theorem less_vlt {a b : List UInt8} (ha : mayB a = true) (hb : mayB b = true) : lessB a b = true ↔ vlt (cutB 46 a) (cutB 46 b) := by
 have hok : ∀ j, okP (atP (cutB 46 a) j) ∧ okP (atP (cutB 46 b) j) := fun j => ⟨Vn.okP_at (may_parts ha) j, Vn.okP_at (may_parts hb) j⟩
 rw [← cmpV_neg ha hb]
 unfold lessB cmpV
 rw [ha, hb, if_pos rfl, if_pos rfl, if_pos (by rfl)]
 exact lessR_cmp hok _ _
theorem vlt_total {x y : List (List UInt8)} (hx : ∀ a ∈ x, partB a = true) (hy : ∀ a ∈ y, partB a = true) (h : x ≠ y) : vlt x y ∨ vlt y x := by
 have : ∃ i, atP x i ≠ atP y i := by
  apply Classical.byContradiction
  intro hn
  exact h (Vn.row_ext hx hy fun i _ => Classical.byContradiction fun hi => hn ⟨i, hi⟩)
 obtain ⟨n, hn⟩ := this
 have hmin : ∃ i, atP x i ≠ atP y i ∧ ∀ j, j < i → atP x j = atP y j := by
  induction n using Nat.strongRecOn with
  | _ n ih =>
   by_cases hh : ∃ j, j < n ∧ atP x j ≠ atP y j
   ·obtain ⟨j, hj, hne⟩ := hh
    exact ih j hj hne
   ·exact ⟨n, hn, fun j hj => Classical.byContradiction fun hi => hh ⟨j, hj, hi⟩⟩
 obtain ⟨i, hi, hj⟩ := hmin
 rcases Vn.plt_total (Vn.okP_at hx i) (Vn.okP_at hy i) hi with g | g
 ·exact .inl ⟨i, hj, g⟩
 ·exact .inr ⟨i, fun j hk => (hj j hk).symm, g⟩
def cntB (N : Str → Str → Bool) (l : List Str) (v : Str) : Nat := (l.filter (N v)).length
section
variable {N : Str → Str → Bool} {l : List Str}
theorem filter_lt {p q : Str → Bool} : ∀ {l : List Str}, (∀ x ∈ l, p x = true → q x = true) → ∀ y ∈ l, p y = false → q y = true → (l.filter p).length < (l.filter q).length
 | [], _, y, hy, _, _ => by cases hy
 | x :: l, h, y, hy, h1, h2 => by
  have le : ∀ {l : List Str}, (∀ x ∈ l, p x = true → q x = true) → (l.filter p).length ≤ (l.filter q).length := fun {l} => by
   induction l with
   | nil => intro _; simp
   | cons z t ih =>
    intro h
    have := ih fun x hx => h x (List.mem_cons_of_mem _ hx)
    have hz := h z List.mem_cons_self
    simp only [List.filter_cons]
    split
    ·rename_i hp
     rw [if_pos (hz hp)]; simp; omega
    ·split <;> simp <;> omega
  have ht := fun x hx => h x (List.mem_cons_of_mem _ hx)
  simp only [List.filter_cons]
  rcases List.mem_cons.1 hy with rfl | hy
  ·rw [h1, h2]
   have := le ht
   simp; omega
  ·have ih := filter_lt ht y hy h1 h2
   split
   ·rename_i hp
    rw [if_pos (h x List.mem_cons_self hp)]; simp; omega
   ·split <;> simp <;> omega
end
end Go.Proofs.YtmlfchjompfmaaaDoor

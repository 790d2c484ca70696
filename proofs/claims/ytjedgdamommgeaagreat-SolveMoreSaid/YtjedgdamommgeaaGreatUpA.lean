/- UpFn Up RupFn, in one text. -/
import Derived.Test.YtjedgdamommgeaaGreatBase
set_option linter.unusedVariables false
namespace Go.Proofs.YtjedgdamommgeaaGreat
namespace Cnf
def value (l : List Int) (x : Int) : Int :=
 match l with
 | [] => 0
 | y :: r => if y = x then 1 else if y = -x then -1 else value r x
theorem value_range (l : List Int) (x : Int) : value l x = 0 ∨ value l x = 1 ∨ value l x = -1 := by
 induction l with
 | nil => exact .inl rfl
 | cons y r ih =>
  unfold value
  split
  ·exact .inr (.inl rfl)
  ·split
   ·exact .inr (.inr rfl)
   ·exact ih
end Cnf
namespace Cnf
end Cnf
namespace Up
open Cnf
def Der (l : List Int) (cs : List (List Int)) (x : Int) : Prop :=
 ∀ P : Int → Prop, (∀ y ∈ l, P y) → (∀ c ∈ cs, ∀ z ∈ c, (∀ y ∈ c, y ≠ z → P (-y)) → P z) → P x
def Conf (l : List Int) (cs : List (List Int)) : Prop := ∃ c ∈ cs, ∀ y ∈ c, Der l cs (-y)
theorem Der.base {l : List Int} {cs : List (List Int)} {x : Int} (h : x ∈ l) : Der l cs x := fun _ h1 _ => h1 x h
theorem Der.unit {l : List Int} {cs : List (List Int)} {x : Int} {c : List Int} (hc : c ∈ cs) (hx : x ∈ c) (h : ∀ y ∈ c, y ≠ x → Der l cs (-y)) : Der l cs x :=
 fun P h1 h2 => h2 c hc x hx fun y hy hn => h y hy hn P h1 h2
structure Good (n : Nat) (S : List Int) : Prop where
 lit : ∀ x ∈ S, x ≠ 0 ∧ x.natAbs ≤ n
 nod : (S.map Int.natAbs).Nodup
theorem Good.cons {n : Nat} {S : List Int} (h : Good n S) {x : Int} (h1 : x ∈ S) (h2 : -x ∈ S) : False := by
 have hP := (List.pairwise_map.1 h.nod)
 have hx := (h.lit x h1).1
 obtain ⟨i, hi, ei⟩ := List.getElem_of_mem h1
 obtain ⟨j, hj, ej⟩ := List.getElem_of_mem h2
 rcases Nat.lt_trichotomy i j with c | c | c
 ·have := List.pairwise_iff_getElem.1 hP i j hi hj c
  rw [ei, ej] at this; omega
 ·subst c; rw [ei] at ej; omega
 ·have := List.pairwise_iff_getElem.1 hP j i hj hi c
  rw [ei, ej] at this; omega
theorem nodup_le : ∀ (n : Nat) (l : List Nat), l.Nodup → (∀ x ∈ l, 1 ≤ x ∧ x ≤ n) → l.length ≤ n
 | 0, [], _, _ => Nat.le_refl _
 | 0, x :: r, _, h => by have := h x List.mem_cons_self; omega
 | n + 1, l, hd, h => by
  have h1 := nodup_le n (l.erase (n + 1)) (hd.erase _) (fun x hx => by
   have h2 := (hd.mem_erase_iff).1 hx
   have := h x h2.2
   have := h2.1
   omega)
  have h2 := List.length_erase (a := n + 1) (l := l)
  split at h2 <;> omega
theorem Good.len {n : Nat} {S : List Int} (h : Good n S) : S.length ≤ n := by
 have := nodup_le n (S.map Int.natAbs) h.nod (fun x hx => by
  obtain ⟨y, hy, rfl⟩ := List.mem_map.1 hx
  have := h.lit y hy
  omega)
 simpa using this
theorem value_one {S : List Int} {x : Int} : value S x = 1 → x ∈ S := by
 induction S with
 | nil => intro h; simp [value] at h
 | cons y r ih =>
  intro h
  unfold value at h
  split at h
  ·rename_i e; rw [← e]; exact List.mem_cons_self
  ·split at h
   ·simp at h
   ·exact List.mem_cons_of_mem _ (ih h)
theorem value_neg {S : List Int} {x : Int} : value S x = -1 → -x ∈ S := by
 induction S with
 | nil => intro h; simp [value] at h
 | cons y r ih =>
  intro h
  unfold value at h
  split at h
  ·simp at h
  ·split at h
   ·rename_i e; rw [← e]; exact List.mem_cons_self
   ·exact List.mem_cons_of_mem _ (ih h)
theorem value_zero {S : List Int} {x : Int} : value S x = 0 ↔ x ∉ S ∧ -x ∉ S := by
 induction S with
 | nil => simp [value]
 | cons y r ih =>
  unfold value
  simp only [List.mem_cons]
  split
  ·rename_i e; subst e; simp
  ·split
   ·rename_i e; subst e; simp
   ·rename_i e1 e2
    rw [ih]
    constructor
    ·rintro ⟨h1, h2⟩; exact ⟨fun h => h.elim (fun e => e1 e.symm) h1, fun h => h.elim (fun e => e2 e.symm) h2⟩
    ·rintro ⟨h1, h2⟩; exact ⟨fun h => h1 (.inr h), fun h => h2 (.inr h)⟩
theorem Good.one {n : Nat} {S : List Int} (h : Good n S) {x : Int} : value S x = 1 ↔ x ∈ S := by
 refine ⟨value_one, fun hx => ?_⟩
 rcases value_range S x with h0 | h0 | h0
 ·exact absurd hx (value_zero.1 h0).1
 ·exact h0
 ·exact (h.cons hx (value_neg h0)).elim
theorem Good.neg {n : Nat} {S : List Int} (h : Good n S) {x : Int} : value S x = -1 ↔ -x ∈ S := by
 refine ⟨value_neg, fun hx => ?_⟩
 rcases value_range S x with h0 | h0 | h0
 ·exact absurd hx (value_zero.1 h0).2
 ·exact (h.cons (value_one h0) hx).elim
 ·exact h0
theorem Good.snoc {n : Nat} {S : List Int} (h : Good n S) {x : Int} (hx : x ≠ 0 ∧ x.natAbs ≤ n) (hv : value S x = 0) : Good n (S ++ [x]) := by
 obtain ⟨h1, h2⟩ := value_zero.1 hv
 refine ⟨fun y hy => ?_, ?_⟩
 ·rcases List.mem_append.1 hy with hy | hy
  ·exact h.lit y hy
  ·simp at hy; subst hy; exact hx
 ·rw [List.map_append, List.nodup_append]
  refine ⟨h.nod, by simp, ?_⟩
  intro a ha b hb e
  obtain ⟨y, hy, rfl⟩ := List.mem_map.1 ha
  simp at hb
  subst hb
  have : y = x ∨ y = -x := by omega
  rcases this with e | e
  ·subst e; exact h1 hy
  ·subst e; exact h2 hy
def Fine (T S c : List Int) : Prop := (∃ y ∈ c, y ∈ S) ∨ ∃ y ∈ c, ∃ z ∈ c, y ≠ z ∧ -y ∉ T ∧ -z ∉ T
end Up
namespace Rup
open Cnf
def place (x : Int) : Nat := if x < 0 then (-2 * x - 1).toNat else (2 * x - 2).toNat
theorem value_negx (S : List Int) {x : Int} (hx : x ≠ 0) : value S (-x) = -value S x := by
 induction S with
 | nil => simp [value]
 | cons y r ih =>
  unfold value
  by_cases h1 : y = x
  ·subst h1
   rw [if_neg (by omega), if_pos (by omega), if_pos rfl]
  ·by_cases h2 : y = -x
   ·rw [if_pos h2, if_neg h1, if_pos h2]; rfl
   ·rw [if_neg h2, if_neg (by omega), if_neg h1, if_neg h2, ih]
theorem place_inj {x y : Int} (hx : x ≠ 0) (hy : y ≠ 0) (h : place x = place y) : x = y := by
 unfold place at h
 split at h <;> split at h <;> omega
theorem place_lt {n : Nat} {x : Int} (hx : x ≠ 0 ∧ x.natAbs ≤ n) : place x < 2 * n := by
 unfold place
 split <;> omega
end Rup
end Go.Proofs.YtjedgdamommgeaaGreat

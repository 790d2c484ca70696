/- The checker of package rup in plain Lean: what its parts hold. -/
import Derived.Test.YtjbfgafkjejdjaaTags
import Derived.Test.YtjbfgafkjejdjaaUp
namespace Go.Proofs.Ytjbfgafkjejdjaa
namespace Rup
open Cnf

structure Chk where
  n : Nat
  cls : List (List Int)
  gone : List Bool
  of : Nat → List Int
  set : List Int

def place (x : Int) : Nat := if x < 0 then (-2 * x - 1).toNat else (2 * x - 2).toNat
def valL (n : Nat) (S : List Int) : List Int := (List.range n).map fun (i : Nat) => value S ((i : Int) + 1)
/-- which of the first clauses have a literal whose opposite lies at p -/
def ofN (cls : List (List Int)) (p : Nat) : List Nat := (List.range cls.length).filter fun k => (cls.getD k []).any fun l => place (-l) == p
def ofL (cls : List (List Int)) (p : Nat) : List Int := (ofN cls p).map fun k => ((k : Nat) : Int)

structure Chk.Ok (C : Chk) : Prop where
  n : C.n ≤ 65536
  len : C.gone.length = C.cls.length
  cls : ∀ c ∈ C.cls, Up.Cls C.n c
  set : Up.Good C.n C.set
  few : C.cls.length ≤ 1000000
  of_ : ∀ p, p < 2 * C.n → C.of p = ofL C.cls p

def Chk.liveOf (C : Chk) (ks : List Nat) : List (List Int) := ks.filterMap fun k => if C.gone.getD k false then none else some (C.cls.getD k [])
def Chk.live (C : Chk) : List (List Int) := C.liveOf (List.range C.cls.length)

def Chk.lookF (C : Chk) (S : List Int) (k : Nat) : List Int × Bool :=
  if C.gone.getD k false then (S, true) else if (fol S (C.cls.getD k []) 0 0).2 = -1 then (S, false)
  else if (fol S (C.cls.getD k []) 0 0).2 = 1 then (S ++ [(fol S (C.cls.getD k []) 0 0).1], true) else (S, true)

theorem pass_look (C : Chk) (k : Nat) (ks : List Nat) (S : List Int) : pass (C.liveOf (k :: ks)) S = if (C.lookF S k).2 then pass (C.liveOf ks) (C.lookF S k).1 else ((C.lookF S k).1, true) := by
  unfold Chk.liveOf Chk.lookF
  rw [List.filterMap_cons]
  cases hg : C.gone.getD k false
  · simp only [Bool.false_eq_true, if_false]
    rw [pass]
    split
    · simp
    · split <;> simp
  · simp

theorem value_negx (S : List Int) {x : Int} (hx : x ≠ 0) : value S (-x) = -value S x := by
  induction S with
  | nil => simp [value]
  | cons y r ih =>
    unfold value
    by_cases h1 : y = x
    · subst h1
      rw [if_neg (by omega), if_pos (by omega), if_pos rfl]
    · by_cases h2 : y = -x
      · rw [if_pos h2, if_neg h1, if_pos h2]; rfl
      · rw [if_neg h2, if_neg (by omega), if_neg h1, if_neg h2, ih]

theorem value_snoc (S : List Int) (x y : Int) : value (S ++ [x]) y = if value S y = 0 then (if x = y then 1 else if x = -y then -1 else 0) else value S y := by
  induction S with
  | nil => simp [value]
  | cons z r ih =>
    rw [List.cons_append, value, value]
    by_cases h1 : z = y
    · rw [if_pos h1, if_pos h1, if_neg (by omega)]
    · rw [if_neg h1, if_neg h1]
      by_cases h2 : z = -y
      · rw [if_pos h2, if_pos h2, if_neg (by omega)]
      · rw [if_neg h2, if_neg h2, ih]

theorem valL_len (n : Nat) (S : List Int) : (valL n S).length = n := by simp [valL]
theorem valL_get (n : Nat) (S : List Int) {i : Nat} (h : i < n) : (valL n S).getD i 0 = value S ((i : Int) + 1) := by
  simp [valL, List.getD_eq_getElem?_getD, h]

/-- what is known of an atom, by its literal -/
theorem valL_lit (n : Nat) (S : List Int) {x : Int} (h0 : x ≠ 0) (h : x.natAbs ≤ n) : value S x = if x < 0 then -((valL n S).getD (x.natAbs - 1) 0) else (valL n S).getD (x.natAbs - 1) 0 := by
  rw [valL_get n S (by omega)]
  by_cases hx : x < 0
  · rw [if_pos hx, show (((x.natAbs - 1 : Nat) : Int) + 1) = -x by omega, value_negx S h0]; omega
  · rw [if_neg hx, show (((x.natAbs - 1 : Nat) : Int) + 1) = x by omega]

theorem list_set_ext {l m : List Int} {i : Nat} {z : Int} (hl : l.length = m.length) (hi : i < l.length) (hz : l.getD i 0 = z) (h : ∀ j, j < l.length → j ≠ i → l.getD j 0 = m.getD j 0) : l = m.set i z := by
  apply List.ext_getElem
  · simpa using hl
  · intro j h1 h2
    rw [List.getElem_set]
    by_cases e : i = j
    · subst e
      rw [if_pos rfl, ← hz]; simp [List.getD_eq_getElem?_getD, h1]
    · rw [if_neg e]
      have := h j h1 (fun e' => e e'.symm)
      simpa [List.getD_eq_getElem?_getD, h1, show j < m.length by omega] using this

theorem valL_put (n : Nat) (S : List Int) {x : Int} (h0 : x ≠ 0) (h : x.natAbs ≤ n) (hv : value S x = 0) : valL n (S ++ [x]) = (valL n S).set (x.natAbs - 1) (if x < 0 then -1 else 1) := by
  have hz := valL_lit n S h0 h
  rw [hv] at hz
  refine list_set_ext (by simp [valL_len]) (by rw [valL_len]; omega) ?_ ?_
  · rw [valL_get n _ (by omega), value_snoc]
    rw [valL_get n S (by omega)] at hz
    by_cases hx : x < 0
    · rw [if_pos hx] at hz
      rw [if_pos (by omega), if_neg (by omega), if_pos (by omega), if_pos hx]
    · rw [if_neg hx] at hz
      rw [if_pos (by omega), if_pos (by omega), if_neg hx]
  · intro j hj hne
    rw [valL_len] at hj
    rw [valL_get n _ hj, valL_get n S hj, value_snoc, if_neg (show ¬ x = (j : Int) + 1 by omega), if_neg (show ¬ x = -((j : Int) + 1) by omega)]
    split
    · rename_i e; rw [e]
    · rfl

/-- what is known when the first j have been taken back -/
def valBack (n : Nat) (S : List Int) (j : Nat) : List Int := (List.range n).map fun (i : Nat) => if (S.take j).any (fun x => x.natAbs == i + 1) then 0 else value S ((i : Int) + 1)

theorem valBack_len (n : Nat) (S : List Int) (j : Nat) : (valBack n S j).length = n := by simp [valBack]
theorem valBack_zero (n : Nat) (S : List Int) : valBack n S 0 = valL n S := by simp [valBack, valL]
theorem valBack_succ (n : Nat) (S : List Int) {j : Nat} (hj : j < S.length) (hx : S.getD j 0 ≠ 0 ∧ (S.getD j 0).natAbs ≤ n) : valBack n S (j + 1) = (valBack n S j).set ((S.getD j 0).natAbs - 1) 0 := by
  have e : S.take (j + 1) = S.take j ++ [S.getD j 0] := by
    rw [List.take_succ_eq_append_getElem hj]; simp [List.getD_eq_getElem?_getD, hj]
  generalize S.getD j 0 = y at *
  refine list_set_ext (by simp [valBack_len]) (by rw [valBack_len]; omega) ?_ ?_
  · unfold valBack
    rw [List.getD_eq_getElem?_getD, List.getElem?_map, List.getElem?_range (by omega)]
    simp only [Option.map_some, Option.getD_some]
    rw [e, if_pos]
    rw [List.any_append]
    have : ([y].any fun x => x.natAbs == y.natAbs - 1 + 1) = true := by
      simp; omega
    rw [this, Bool.or_true]
  · intro i hi hne
    rw [valBack_len] at hi
    unfold valBack
    rw [List.getD_eq_getElem?_getD, List.getD_eq_getElem?_getD, List.getElem?_map, List.getElem?_map, List.getElem?_range hi]
    simp only [Option.map_some, Option.getD_some]
    rw [e, List.any_append]
    have : ([y].any fun x => x.natAbs == i + 1) = false := by
      simp; omega
    rw [this, Bool.or_false]
theorem valBack_all (n : Nat) (S : List Int) : valBack n S S.length = valL n [] := by
  unfold valBack valL
  apply List.map_congr_left
  intro i _
  rw [List.take_of_length_le (Nat.le_refl _)]
  split
  · rfl
  · rename_i h
    simp only [value]
    rw [Up.value_zero]
    simp only [Bool.not_eq_true, List.any_eq_false, beq_iff_eq] at h
    constructor
    · intro hm; exact h _ hm (by omega)
    · intro hm; exact h _ hm (by omega)

theorem place_inj {x y : Int} (hx : x ≠ 0) (hy : y ≠ 0) (h : place x = place y) : x = y := by
  unfold place at h
  split at h <;> split at h <;> omega

theorem place_lt {n : Nat} {x : Int} (hx : x ≠ 0 ∧ x.natAbs ≤ n) : place x < 2 * n := by
  unfold place
  split <;> omega

/-- the clauses that have a literal's opposite -/
theorem live_of (C : Chk) (o : C.Ok) {x : Int} (hx : x ≠ 0) : C.liveOf (ofN C.cls (place x)) = C.live.filter fun c => c.contains (-x) := by
  unfold Chk.live Chk.liveOf ofN
  have hr : ∀ k ∈ List.range C.cls.length, k < C.cls.length := fun k hk => List.mem_range.1 hk
  revert hr
  generalize List.range C.cls.length = ks
  intro hr
  induction ks with
  | nil => rfl
  | cons k r ih =>
    have ih' := ih (fun k hk => hr k (List.mem_cons_of_mem _ hk))
    have hk := hr k List.mem_cons_self
    have hc := o.cls _ (getD_mem' [] hk)
    have hiff : ((C.cls.getD k []).any fun l => place (-l) == place x) = (C.cls.getD k []).contains (-x) := by
      rw [Bool.eq_iff_iff, List.any_eq_true, List.contains_iff_mem]
      constructor
      · rintro ⟨l, hl, he⟩
        have := place_inj (x := -l) (y := x) (by have := (hc.lit l hl).1; omega) hx (by simpa using he)
        rw [← this]; simpa using hl
      · intro hm
        exact ⟨-x, hm, by simp⟩
    rw [List.filter_cons, List.filterMap_cons]
    cases hg : C.gone.getD k false
    · simp only [Bool.false_eq_true, if_false]
      rw [List.filter_cons, hiff]
      split
      · rw [List.filterMap_cons, hg]
        simp only [Bool.false_eq_true, if_false]
        rw [ih']
      · exact ih'
    · simp only [if_true]
      split
      · rw [List.filterMap_cons, hg]
        simp only [if_true]
        exact ih'
      · exact ih'

theorem live_cls (C : Chk) (o : C.Ok) : ∀ c ∈ C.live, Up.Cls C.n c := by
  intro c hc
  unfold Chk.live Chk.liveOf at hc
  obtain ⟨k, hk, he⟩ := List.mem_filterMap.1 hc
  split at he
  · cases he
  · simp at he
    subst he
    exact o.cls _ (getD_mem' [] (List.mem_range.1 hk))

end Rup
end Go.Proofs.Ytjbfgafkjejdjaa

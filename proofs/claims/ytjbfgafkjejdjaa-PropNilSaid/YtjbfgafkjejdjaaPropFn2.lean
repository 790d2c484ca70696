/- The cells of a trail's atoms, by plain lists. -/
import Derived.Test.YtjbfgafkjejdjaaProp1
namespace Go.Proofs.Ytjbfgafkjejdjaa
open Go.RowKit
namespace Tr
open Cnf

theorem flat_len {α : Type} (f : Nat → List α) (m : Nat) (h : ∀ i, (f i).length = m) : ∀ n, ((List.range n).flatMap f).length = n * m
  | 0 => by simp
  | n + 1 => by rw [List.range_succ, List.flatMap_append, List.length_append, flat_len f m h n]; simp [h, Nat.add_mul]

theorem flat_get {α : Type} (f : Nat → List α) (m : Nat) (h : ∀ i, (f i).length = m) : ∀ (n i j : Nat), i < n → j < m → ((List.range n).flatMap f)[i * m + j]? = (f i)[j]?
  | 0, i, j, hi, _ => by omega
  | n + 1, i, j, hi, hj => by
    rw [List.range_succ, List.flatMap_append]
    by_cases e : i = n
    · subst e
      rw [List.getElem?_append_right (by rw [flat_len f m h]; omega), flat_len f m h]
      simp
    · rw [List.getElem?_append_left (by
        rw [flat_len f m h]
        have : (i + 1) * m ≤ n * m := Nat.mul_le_mul_right _ (by omega)
        rw [Nat.add_mul] at this; omega)]
      exact flat_get f m h n i j (by omega) hj

theorem flat_ext {α : Type} {f : Nat → List α} {m n : Nat} (hm : 0 < m) (h : ∀ i, (f i).length = m) {l : List α} (hl : l.length = n * m) (hg : ∀ i j, i < n → j < m → l[i * m + j]? = (f i)[j]?) : l = (List.range n).flatMap f := by
  apply List.ext_getElem?
  intro q
  by_cases hq : q < n * m
  · have e : q = q / m * m + q % m := by rw [Nat.mul_comm]; exact (Nat.div_add_mod q m).symm
    have h1 : q / m < n := (Nat.div_lt_iff_lt_mul hm).2 hq
    have h2 : q % m < m := Nat.mod_lt _ hm
    rw [e, hg _ _ h1 h2, flat_get f m h n _ _ h1 h2]
  · rw [List.getElem?_eq_none (by omega), List.getElem?_eq_none (by rw [flat_len f m h]; omega)]

theorem cell3_len (x : Int × Int × Int) : (cell3 x).length = 3 := rfl
theorem atomCells_len (n : Nat) (e : List (Int × Nat × Int)) : (atomCells n e).length = n * 3 := flat_len _ 3 (fun _ => rfl) n
theorem atomCells_get {n : Nat} (e : List (Int × Nat × Int)) {i j : Nat} (hi : i < n) (hj : j < 3) : (atomCells n e)[i * 3 + j]? = (cell3 (atomOf e (i + 1)))[j]? := flat_get (fun i => cell3 (atomOf e (i + 1))) 3 (fun _ => rfl) n i j hi hj

/-- one atom's cells set -/
theorem atomCells_set {n : Nat} {e e' : List (Int × Nat × Int)} {a : Nat} (ha : a < n) (h : ∀ i, i ≠ a → atomOf e' (i + 1) = atomOf e (i + 1)) {x y z : Int} (hx : atomOf e' (a + 1) = (x, y, z)) :
    (((atomCells n e).set (a * 3) (cI x)).set (a * 3 + 1) (cI y)).set (a * 3 + 2) (cI z) = atomCells n e' := by
  refine flat_ext (m := 3) (f := fun i => cell3 (atomOf e' (i + 1))) (by decide) (fun _ => rfl) (by simp [atomCells_len]) (fun i j hi hj => ?_)
  simp only [List.getElem?_set, List.length_set, atomCells_len]
  by_cases ei : i = a
  · subst ei
    rw [hx]
    have hb : i * 3 + 2 < n * 3 := by omega
    match j, hj with
    | 0, _ => rw [if_neg (by omega), if_neg (by omega), if_pos (by omega), if_pos (by omega)]; rfl
    | 1, _ => rw [if_neg (by omega), if_pos (by omega), if_pos (by omega)]; rfl
    | 2, _ => rw [if_pos (by omega), if_pos (by omega)]; rfl
  · rw [if_neg (by omega), if_neg (by omega), if_neg (by omega), atomCells_get e hi hj, h i ei]

/-- entries of which no atom stands twice -/
def Nod (e : List (Int × Nat × Int)) : Prop := (e.map fun x => x.1.natAbs).Nodup

theorem Nod.of_good {n : Nat} {e : List (Int × Nat × Int)} (h : Up.Good n (e.map (·.1))) : Nod e := by
  have := h.nod
  simpa [Nod, List.map_map, Function.comp_def] using this

theorem atomOf_none {e : List (Int × Nat × Int)} {a : Nat} (h : ∀ x ∈ e, x.1.natAbs ≠ a) : atomOf e a = (0, 0, 0) := by
  unfold atomOf
  rw [List.find?_eq_none.2 (by intro x hx; simpa using h x hx)]

theorem find_mem {e : List (Int × Nat × Int)} (hn : Nod e) {x : Int × Nat × Int} (hx : x ∈ e) : e.find? (fun y => y.1.natAbs == x.1.natAbs) = some x := by
  induction e with
  | nil => cases hx
  | cons y r ih =>
    unfold Nod at hn
    rw [List.map_cons, List.nodup_cons] at hn
    rw [List.find?_cons]
    rcases List.mem_cons.1 hx with e1 | e1
    · subst e1; simp
    · have : (y.1.natAbs == x.1.natAbs) = false := by
        rw [beq_eq_false_iff_ne]
        intro e2
        exact hn.1 (List.mem_map.2 ⟨x, e1, e2.symm⟩)
      rw [this]
      exact ih hn.2 e1

theorem atomOf_mem {e : List (Int × Nat × Int)} (hn : Nod e) {x : Int × Nat × Int} (hx : x ∈ e) : atomOf e x.1.natAbs = (if x.1 < 0 then -1 else 1, (x.2.1 : Int), x.2.2) := by
  unfold atomOf
  rw [find_mem hn hx]

/-- an atom's value is that of the list -/
theorem atomOf_val {n : Nat} {e : List (Int × Nat × Int)} (h : Up.Good n (e.map (·.1))) {a : Nat} (ha : 0 < a) : (atomOf e a).1 = value (e.map (·.1)) (a : Int) := by
  by_cases hx : ∃ x ∈ e, x.1.natAbs = a
  · obtain ⟨x, hx, rfl⟩ := hx
    rw [atomOf_mem (Nod.of_good h) hx]
    have hm : x.1 ∈ e.map (·.1) := List.mem_map.2 ⟨x, hx, rfl⟩
    by_cases hs : x.1 < 0
    · rw [if_pos hs]
      symm
      rw [h.neg]
      rw [show -((x.1.natAbs : Nat) : Int) = x.1 by omega]; exact hm
    · rw [if_neg hs]
      symm
      rw [h.one]
      rw [show ((x.1.natAbs : Nat) : Int) = x.1 by omega]; exact hm
  · have h0 : ∀ x ∈ e, x.1.natAbs ≠ a := fun x hx' e' => hx ⟨x, hx', e'⟩
    rw [atomOf_none h0]
    symm
    rw [Up.value_zero]
    constructor
    · intro hm
      obtain ⟨x, hx', e'⟩ := List.mem_map.1 hm
      exact h0 x hx' (by omega)
    · intro hm
      obtain ⟨x, hx', e'⟩ := List.mem_map.1 hm
      exact h0 x hx' (by omega)

theorem atomOf_snoc {e : List (Int × Nat × Int)} {x : Int × Nat × Int} {a : Nat} (hx : x.1.natAbs ≠ a) : atomOf (e ++ [x]) a = atomOf e a := by
  unfold atomOf
  have : ([x] : List (Int × Nat × Int)).find? (fun y => y.1.natAbs == a) = none := by simp [hx]
  rw [List.find?_append, this]
  simp
theorem atomOf_new {e : List (Int × Nat × Int)} {x : Int × Nat × Int} (h : ∀ y ∈ e, y.1.natAbs ≠ x.1.natAbs) : atomOf (e ++ [x]) x.1.natAbs = (if x.1 < 0 then -1 else 1, (x.2.1 : Int), x.2.2) := by
  unfold atomOf
  have : e.find? (fun y => y.1.natAbs == x.1.natAbs) = none := List.find?_eq_none.2 (by intro y hy; simpa using h y hy)
  rw [List.find?_append, this]
  simp

theorem atomOf_skip {e r : List (Int × Nat × Int)} {x : Int × Nat × Int} {a : Nat} (hx : x.1.natAbs ≠ a) : atomOf (e ++ x :: r) a = atomOf (e ++ r) a := by
  unfold atomOf
  rw [List.find?_append, List.find?_append, List.find?_cons]
  have : (x.1.natAbs == a) = false := by simpa using hx
  rw [this]

theorem lits_open {n : Nat} {e : List (Int × Nat × Int)} {l : Int} (hl : l ≠ 0) (hv : value (e.map (·.1)) l = 0) : ∀ y ∈ e, y.1.natAbs ≠ l.natAbs := by
  intro y hy e'
  obtain ⟨h1, h2⟩ := Up.value_zero.1 hv
  have : y.1 = l ∨ y.1 = -l := by omega
  rcases this with h | h
  · exact h1 (List.mem_map.2 ⟨y, hy, h⟩)
  · exact h2 (List.mem_map.2 ⟨y, hy, h⟩)

theorem levCells_len : ∀ (l : List (Nat × Nat)), (levCells l).length = l.length * 2
  | [] => rfl
  | x :: r => by
    have := levCells_len r
    unfold levCells at *
    rw [List.flatMap_cons, List.length_append, this]; simp [cell2]; omega
theorem levCells_get : ∀ (l : List (Nat × Nat)) (i j : Nat), i < l.length → j < 2 → (levCells l)[i * 2 + j]? = (cell2 (l.getD i (0, 0)))[j]?
  | [], i, j, hi, _ => by simp at hi
  | x :: r, 0, j, _, hj => by
    unfold levCells
    rw [List.flatMap_cons, List.getElem?_append_left (by simp [cell2]; omega)]
    simp
  | x :: r, i + 1, j, hi, hj => by
    have := levCells_get r i j (by simpa using hi) hj
    unfold levCells at *
    rw [List.flatMap_cons, List.getElem?_append_right (by simp [cell2]; omega)]
    rw [show (i + 1) * 2 + j - (cell2 x).length = i * 2 + j by simp [cell2]; omega, this]
    simp
theorem levCells_app (l m : List (Nat × Nat)) : levCells (l ++ m) = levCells l ++ levCells m := by simp [levCells]
theorem levCells_take : ∀ (l : List (Nat × Nat)) (k : Nat), levCells (l.take k) = (levCells l).take (k * 2)
  | [], k => by simp [levCells]
  | x :: r, 0 => by simp [levCells]
  | x :: r, k + 1 => by
    have := levCells_take r k
    unfold levCells at *
    rw [List.take_succ_cons, List.flatMap_cons, List.flatMap_cons, this]
    rw [List.take_append, List.take_of_length_le (l := cell2 x) (by simp only [cell2, List.length_cons, List.length_nil]; omega)]
    congr 1
    rw [show (k + 1) * 2 - (cell2 x).length = k * 2 by simp only [cell2, List.length_cons, List.length_nil]; omega]

end Tr
end Go.Proofs.Ytjbfgafkjejdjaa

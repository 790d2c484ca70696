/- slices.Clone, SortFunc, Compact at []int, out of the shelf's contracts, in the words of Mem and Ints. -/
import Derived.Test.YtbapkcnfacklaaaShelf
import Derived.Test.YtbapkcnfacklaaaBase
set_option linter.unusedVariables false
namespace Go.Proofs.Ytbapkcnfacklaaa
open Go.RowKit Go.Lib Go.Sort Go.Shelf
theorem own_putRow {w : World} {e : TypeId} {g n cap : Nat} {xs : List Value} (h : w.ownsRow 0 e 1 (.slice (some ⟨g, 0, none⟩) n cap) n xs) (d : Array Int) (hd : d.size = n) :
  (putRow (Value.int .i64) w g 0 d).ownsRow 0 e 1 (.slice (some ⟨g, 0, none⟩) n cap) n (d.toList.map cI) := by
 rcases h.2 with ⟨h', _⟩ | ⟨g', cap', cur, h', hb, hg, h1, h2, h3, htake⟩
 ·simp at h'
 ·simp only [Value.slice.injEq, Option.some.injEq, Addr.mk.injEq, and_true, true_and] at h'
  obtain ⟨rfl, rfl⟩ := h'
  refine ⟨by simp [hd], .inr ⟨g, cap, putCells (Value.int .i64) 0 d cur, rfl, Nat.zero_le _, ?_, h1, h2, ?_, ?_⟩⟩
  ·show (w.heap.modify g _)[g]? = _
   rw [Array.getElem?_modify, if_pos rfl, hg]
   rfl
  ·simpa [putCells] using h3
  ·apply List.ext_getElem?
   intro j
   simp only [Nat.mul_one, putCells, List.getElem?_take, List.getElem?_map]
   by_cases hj : j < n
   ·have hjd : j < d.size := by omega
    have hjc : j < cur.size := by omega
    simp [hj, hjd, hjc, cI]
   ·have hjd : ¬ j < d.size := by omega
    simp [hj, hjd]
theorem only_putRow (w : World) (g : Nat) (d : Array Int) : Only (fun k => k = g) w (putRow (Value.int .i64) w g 0 d) :=
 ⟨rfl, rfl, rfl, by simp [putRow, mapBlock], fun k _ hk => by
  show (w.heap.modify g _)[k]? = _
  rw [Array.getElem?_modify, if_neg (fun e => hk e.symm)]⟩
theorem only_grow {F : Nat → Prop} {w w' : World} (h : Only F w w') (os : Array Obj) : Only F w (grow w' os) :=
 h.trans (G := fun _ => False) ⟨rfl, rfl, rfl, by simp [grow], fun k hk _ => by
  show (w'.heap ++ os)[k]? = _
  rw [Array.getElem?_append_left hk]⟩ (fun _ f => f.elim)
theorem only_ahead {F : Nat → Prop} {w w' : World} (h : Only F w w') (n : Nat) : Only F w (Sort.ahead w' n) := ⟨h.os, h.tape, h.output, h.size, h.block⟩
theorem own_holds {w : World} {e : TypeId} {g n cap : Nat} {xs : List Int} (h : w.ownsRow 0 e 1 (.slice (some ⟨g, 0, none⟩) n cap) n (xs.map cI)) : Holds (Value.int .i64) w g 0 xs.toArray := by
 intro j hj
 have hn : xs.length = n := by simpa using h.1
 have hj' : j < xs.length := by simpa using hj
 refine ⟨?_, h.frozenAt _⟩
 rw [Nat.zero_add, h.cellAt j (by omega)]
 simp [hj', cI]
theorem Clone_anyR {w : World} {v : Value} {xs : List Int} (hI : Ints w v xs) (hb : xs.length ≤ 17592186043904) :
  Calls Try.prog 32 #[v] w fun e w' => ∃ v', e = .returned v' ∧ w'.ownsRow 0 3 1 v' xs.length (xs.map cI) ∧ (∀ k, v'.ownBlock = some k → w.heap.size ≤ k) ∧ Only (fun _ => False) w w' := by
 obtain ⟨ao, cap, rfl, hl, hm⟩ := hI.shape
 have fin : ∀ (n : Nat) (zs : List Value) (e : Ending) (w' : World), (∃ v', e = .returned v' ∧ w'.ownsRow w.heap.size 3 1 v' n zs ∧ v' ≠ .slice none 0 0 ∧ Below w.heap.size w w') → ∃ v', e = .returned v' ∧ w'.ownsRow 0 3 1 v' n zs ∧ (∀ k, v'.ownBlock = some k → w.heap.size ≤ k) ∧ Only (fun _ => False) w w' := by
  rintro n zs e w' ⟨v', he, ho, _, hbel⟩
  refine ⟨v', he, ⟨ho.1, ?_⟩, fun k hk => (ho.lt k hk).1, (Only.of_below hbel).trans' ?_⟩
  ·rcases ho.2 with h | ⟨g, c, cur, h1, h2, h3⟩
   ·exact .inl h
   ·exact .inr ⟨g, c, cur, h1, Nat.zero_le _, h3⟩
  ·intro i hi; exact hi
 by_cases h0 : xs.length = 0
 ·have hx : xs = [] := List.eq_nil_of_length_eq_zero h0
  subst hx
  cases ao with
  | none => exact (Try.slices_Clone_int_nil 0 cap w).mono fun e w' ⟨he, hw⟩ => ⟨_, he, by rw [hw]; exact World.ownsRow_nil _ _ _ _, fun k hk => by simp [Value.ownBlock] at hk, by rw [hw]; exact Only.refl _ _⟩
  | some a => exact (Try.slices_Clone_int_zero a cap w).mono fun e w' h => fin 0 [] e w' h
 ·obtain ⟨b, off, rfl, hbb, hc⟩ := hI.cells _ _ _ rfl (by omega)
  refine (Try.slices_Clone_int b off xs.length cap xs w (Nat.le_refl _) (by omega) hc).mono fun e w' h => ?_
  rw [List.take_of_length_le (Nat.le_refl _)] at h
  exact fin _ _ e w' h
theorem Clone_any {w : World} {v : Value} {xs : List Int} (hI : Ints w v xs) (hb : xs.length ≤ 1099511627776) :
  Calls Try.prog 32 #[v] w fun e w' => ∃ v', e = .returned v' ∧ w'.ownsRow 0 3 1 v' xs.length (xs.map cI) ∧ (∀ k, v'.ownBlock = some k → w.heap.size ≤ k) ∧ Only (fun _ => False) w w' := Clone_anyR hI (by omega)
theorem Sort_anyR {w : World} {v : Value} {xs : List Int} (h : w.ownsRow 0 3 1 v xs.length (xs.map cI)) (hb : xs.length ≤ 17592186043904) (cf : Int → Int → Int) (hO : SWO (ltOf cf)) (hT : ∀ x y, (ltOf cf) x y = false → (ltOf cf) y x = false → x = y)
  (g : Nat) (cb : Array Value) (eg : ∀ args w, (callFunc g args).run Try.prog w = .ok (.enter g args) w)
  (hcmp : ∀ (W : World) (x y : Int), Calls Try.prog g (#[.int .i64 x, .int .i64 y] ++ cb) W fun e w' => e = .returned (.int .i64 (cf x y)) ∧ ∃ q os', w' = grow (W.drewN q) os') :
  Calls Try.prog 70 #[v, .func (.func g) #[] cb] w fun e w' => e = .returned (.tuple #[]) ∧ w'.ownsRow 0 3 1 v xs.length ((xs.mergeSort fun x y => !(ltOf cf) y x).map cI) ∧ Only (fun k => v.ownBlock = some k) w w' := by
 by_cases h0 : xs.length = 0
 ·have hx : xs = [] := List.eq_nil_of_length_eq_zero h0
  subst hx
  obtain ⟨ao, cap, rfl, _, _⟩ := own_slice h
  refine (Try.slices_SortFunc_none (α := Int) ao cap _ w).mono fun e w' ⟨he, hw⟩ => ⟨he, ?_, ?_⟩
  ·rw [hw]; simpa using h
  ·rw [hw]; exact Only.refl _ _
 ·obtain ⟨gb, cap, rfl, _, _⟩ := own_some h (by omega)
  have hH := own_holds h
  have hlt := own_lt h (k := gb) rfl
  have key := Try.slices_SortFunc_total (Value.int .i64) (fun _ => rfl) cf hO g cb gb 0 cap xs.toArray w eg (fun m os dk _ x y => hcmp _ x y) hH hlt (by simp; omega) hT
  simp only [List.size_toArray] at key
  refine key.mono fun e w' ⟨he, n, os, hw⟩ => ⟨he, ?_, ?_⟩
  ·subst hw
   unfold sortWorld
   have h1 := own_putRow (w := Sort.ahead w n) (g := gb) (n := xs.length) (cap := cap) (e := 3) h (xs.mergeSort fun x y => !(ltOf cf) y x).toArray (by simp)
   have h2 := own_only h1 (only_grow (Only.refl (fun _ => False) _) os) (fun _ _ f => f)
   simpa using h2
  ·subst hw
   unfold sortWorld
   refine only_grow ?_ os
   have := (only_ahead (Only.refl (fun k => k = gb) w) n).same (only_putRow (Sort.ahead w n) gb (xs.mergeSort fun x y => !(ltOf cf) y x).toArray)
   exact this.mono fun i hi => by subst hi; rfl
theorem compact_le (xs : List Int) : (Lib.compact xs).length ≤ xs.length := by
 unfold Lib.compact Lib.compactUpTo
 rw [List.length_map]
 have := List.length_filter_le (Lib.keeps xs.toArray) (List.range xs.length)
 simpa using this
theorem Compact_any {w : World} {v : Value} {xs : List Int} (h : w.ownsRow 0 3 1 v xs.length (xs.map cI)) :
  Calls Try.prog 75 #[v] w fun e w' => ∃ v', e = .returned v' ∧ w'.ownsRow 0 3 1 v' (Lib.compact xs).length ((Lib.compact xs).map cI) ∧ v'.ownBlock = v.ownBlock ∧ Only (fun k => v.ownBlock = some k) w w' := by
 by_cases h0 : xs.length = 0
 ·have hx : xs = [] := List.eq_nil_of_length_eq_zero h0
  subst hx
  obtain ⟨ao, cap, rfl, _, _⟩ := own_slice h
  refine (Try.slices_Compact_int_empty ao cap w).mono fun e w' ⟨he, hw⟩ => ⟨_, he, ?_, rfl, ?_⟩
  ·rw [hw]; exact h
  ·rw [hw]; exact Only.refl _ _
 ·obtain ⟨gb, cap, rfl, hc1, hc2⟩ := own_some h (by omega)
  have hH := own_holds h
  unfold maxLen at hc2
  refine (Try.slices_Compact_int gb 0 cap xs w hH (by omega) hc1).mono fun e w' ⟨he, q, hw⟩ => ⟨_, he, ?_, rfl, ?_⟩
  ·subst hw
   have hle := compact_le xs
   have h1 := own_putRow (w := Sort.ahead w q) (g := gb) (n := xs.length) (cap := cap) (e := 3) h (Lib.compact xs ++ List.replicate (xs.length - (Lib.compact xs).length) 0).toArray (by simp; omega)
   have h2 := own_cut h1 (Lib.compact xs).length hle
   simpa using h2
  ·subst hw
   have := (only_ahead (Only.refl (fun k => k = gb) w) q).same (only_putRow (Sort.ahead w q) gb (Lib.compact xs ++ List.replicate (xs.length - (Lib.compact xs).length) 0).toArray)
   exact this.mono fun i hi => by subst hi; rfl
end Go.Proofs.Ytbapkcnfacklaaa

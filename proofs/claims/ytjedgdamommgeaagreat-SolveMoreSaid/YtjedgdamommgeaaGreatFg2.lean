/- Notes in memory; which of two is worse; the sort of notes as a whole (slices.SortStableFunc): a permutation. Printed by gen_fg2.py. -/
import Derived.Test.YtjedgdamommgeaaGreatFg1
import Derived.Test.YtjedgdamommgeaaGreatAtA
import Derived.Test.YtjedgdamommgeaaGreatShelf
import Derived.Test.YtjedgdamommgeaaGreatPrA
import Derived.Test.YtjedgdamommgeaaGreatRegs
import Derived.Test.YtjedgdamommgeaaGreatCnfA
import Derived.Test.YtjedgdamommgeaaGreatPrO
set_option linter.unusedVariables false
namespace Go.Proofs.YtjedgdamommgeaaGreat
open Go.Shelf Go.RowKit Go.Lib Go.Sort
def encN (x : NQ) : List Value := [.int .i64 x.num, .int .i64 x.size, .int .i64 x.levels, .bool x.mark]
theorem encN_len (x : NQ) : (encN x).length = 4 := rfl
theorem encN_one (x : NQ) : ∀ v ∈ encN x, v.oneCell' = true := by
 intro v hv
 simp [encN] at hv
 rcases hv with rfl | rfl | rfl | rfl <;> rfl
def flatN (L : List NQ) : List Value := L.flatMap encN
theorem flatN_len (L : List NQ) : (flatN L).length = L.length * 4 := by
 unfold flatN
 induction L with
 | nil => rfl
 | cons x r ih => rw [List.flatMap_cons, List.length_append, ih, encN_len, List.length_cons, Nat.add_mul]; omega
theorem flatN_get (L : List NQ) {i j : Nat} (hi : i < L.length) (hj : j < 4) : (flatN L)[i * 4 + j]? = (encN (L.getD i default))[j]? := by
 unfold flatN
 induction L generalizing i with
 | nil => simp at hi
 | cons x r ih =>
  rw [List.flatMap_cons]
  cases i with
  | zero => rw [Nat.zero_mul, Nat.zero_add, List.getElem?_append_left (by rw [encN_len]; exact hj)]; rfl
  | succ i =>
   rw [List.getElem?_append_right (by rw [encN_len]; omega), encN_len]
   have : (i + 1) * 4 + j - 4 = i * 4 + j := by omega
   rw [this, ih (by simpa using hi)]
   simp
theorem flatN_flatK (L : List NQ) : (flatK encN 4 L.toArray).toList = flatN L := by
 refine List.ext_getElem? fun t => ?_
 by_cases ht : t < L.length * 4
 ·have h1 : t < (flatK encN 4 L.toArray).size := by simpa using ht
  have e1 : (flatK encN 4 L.toArray).toList[t]? = some ((flatK encN 4 L.toArray)[t]!) := by
   rw [getElem!_pos (flatK encN 4 L.toArray) t h1]; simp []
  rw [e1, get_flatK _ _ _ _ (by simpa using ht)]
  have h2 := flatN_get L (i := t / 4) (j := t % 4) (by omega) (by omega)
  rw [show t / 4 * 4 + t % 4 = t by omega] at h2
  rw [h2]
  have h3 : L.toArray[t / 4]! = L.getD (t / 4) default := by
   rw [getElem!_pos L.toArray (t / 4) (by simp; omega)]
   simp [List.getD, List.getElem?_eq_getElem (show t / 4 < L.length by omega)]
  rw [h3]
  have h5 : t % 4 < (encN (L.getD (t / 4) default)).length := by rw [encN_len]; omega
  rw [getElem!_pos (encN (L.getD (t / 4) default)) (t % 4) h5]
  exact (List.getElem?_eq_getElem h5).symm
 ·rw [List.getElem?_eq_none (by simp; omega), List.getElem?_eq_none (by rw [flatN_len]; omega)]
theorem flatN_append (a b : List NQ) : flatN (a ++ b) = flatN a ++ flatN b := List.flatMap_append
section
variable {w w' : World}
abbrev NRow (w : World) (v : Value) (L : List NQ) : Prop := w.ownsRow 0 116 4 v L.length (flatN L)
theorem NRow.holds {g n cap : Nat} {L : List NQ} (h : NRow w (.slice (some ⟨g, 0, none⟩) n cap) L) : HoldsK encN 4 w g 0 L.toArray := by
 obtain ⟨ao, cap', he, _, _⟩ := own_slice h
 simp only [Value.slice.injEq] at he
 obtain ⟨-, rfl, -⟩ := he
 intro j hj
 have hj' : j < L.length * 4 := by simpa using hj
 refine ⟨?_, h.frozenAt _⟩
 rw [Nat.zero_add, h.cellAt j (by omega)]
 have h1 : j < (flatN L).length := by rw [flatN_len]; exact hj'
 rw [List.getElem?_eq_getElem h1]
 have h2 : j < (flatK encN 4 L.toArray).size := by simpa using hj'
 rw [getElem!_pos (flatK encN 4 L.toArray) j h2]
 have h3 := flatN_flatK L
 have : (flatK encN 4 L.toArray)[j] = (flatN L)[j] := by
  simp only [← h3]; simp
 rw [this]; rfl
theorem own_putRowZ {e : TypeId} {size g n cap : Nat} {xs : List Value} (h : w.ownsRow 0 e size (.slice (some ⟨g, 0, none⟩) n cap) n xs) (F : Array Value) (hF : F.size = n * size) :
  (putRow id w g 0 F).ownsRow 0 e size (.slice (some ⟨g, 0, none⟩) n cap) n F.toList := by
 rcases h.2 with ⟨h', _⟩ | ⟨g', cap', cur, h', hb, hg, h1, h2, h3, htake⟩
 ·simp at h'
 ·simp only [Value.slice.injEq, Option.some.injEq, Addr.mk.injEq, and_true, true_and] at h'
  obtain ⟨rfl, rfl⟩ := h'
  have hcs : n * size ≤ cur.size := by rw [h3]; exact Nat.mul_le_mul_right _ h1
  refine ⟨by simp [hF], .inr ⟨g, cap, putCells id 0 F cur, rfl, Nat.zero_le _, ?_, h1, h2, ?_, ?_⟩⟩
  ·show (w.heap.modify g _)[g]? = _
   rw [Array.getElem?_modify, if_pos rfl, hg]
   rfl
  ·rw [← h3]; simp [putCells]
  ·refine List.ext_getElem? fun t => ?_
   rw [List.getElem?_take]
   by_cases ht : t < n * size
   ·rw [if_pos ht]
    have h4 : t < F.size := by omega
    have h5 : t < cur.size := by omega
    simp [putCells, h4, h5]
   ·rw [if_neg ht, List.getElem?_eq_none (by simp; omega)]
theorem only_putRowZ (w : World) (g : Nat) (F : Array Value) : Only (fun k => k = g) w (putRow id w g 0 F) :=
 ⟨rfl, rfl, rfl, by simp [putRow, mapBlock], fun k _ hk => by
  show (w.heap.modify g _)[k]? = _
  rw [Array.getElem?_modify, if_neg (fun e => hk e.symm)]⟩
def orL : List Int → Int
 | [] => 0
 | x :: r => if x = 0 then orL r else x
theorem orL_skip {xs : List Int} : ∀ {i : Nat}, i ≤ xs.length → (∀ j, j < i → xs.getD j 0 = 0) → orL xs = orL (xs.drop i)
 | 0, _, _ => by simp
 | i + 1, h, ha => by
  rw [orL_skip (i := i) (by omega) (fun j hj => ha j (by omega))]
  rw [List.drop_eq_getElem_cons (show i < xs.length by omega)]
  have := ha i (by omega)
  rw [List.getD_eq_getElem?_getD, List.getElem?_eq_getElem (show i < xs.length by omega)] at this
  simp only [Option.getD_some] at this
  show (if xs[i] = 0 then _ else _) = _
  rw [if_pos this]
theorem orL_at {xs : List Int} {i : Nat} (h : i < xs.length) (ha : ∀ j, j < i → xs.getD j 0 = 0) (hn : xs.getD i 0 ≠ 0) : orL xs = xs.getD i 0 := by
 rw [orL_skip (Nat.le_of_lt h) ha, List.drop_eq_getElem_cons h]
 have e : xs.getD i 0 = xs[i] := by rw [List.getD_eq_getElem?_getD, List.getElem?_eq_getElem h]; rfl
 rw [e] at hn ⊢
 show (if xs[i] = 0 then _ else _) = _
 rw [if_neg hn]
theorem Or_any {v : Value} {xs : List Int} (hI : Ints w v xs) : Calls Tryz.prog 92 #[v] w fun e w' => e = .returned (.int .i64 (orL xs)) ∧ w' = w := by
 obtain ⟨ao, cap, rfl, hl1, hl2⟩ := hI.shape
 obtain ⟨r, hr⟩ : ∃ r, orL xs = r := ⟨_, rfl⟩
 rw [hr]
 have HR := Lib.hid hr
 have HI := Lib.hid hI
 clear hI hr
 go_enter Tryz.func92, Tryz.ntmps92
 go_wp2_with fail
 go_loopw [5, 8] (fun _ vi wr => w = wr ∧ ∃ i : Nat, vi = .int .i64 i ∧ i ≤ xs.length ∧ Hid (∀ j, j < i → xs.getD j 0 = 0)) (fun _ v _ => xs.length - (intOf v).toNat)
 case atStart => exact ⟨rfl, 0, rfl, Nat.zero_le _, fun j hj => by omega⟩
 case round =>
  obtain ⟨rfl, i, rfl, hi, HZ⟩ := hrel
  by_cases ci : i < xs.length
  ·obtain ⟨bl, ol, rfl, _, hcs⟩ := HI.out.cells _ _ _ rfl (by omega)
   have qx := hcs i ci
   have ewi : IntKind.i64.wrap ((i : Int) + 1) = (i : Int) + 1 := by rw [IntKind.wrap_i64]; omega
   obtain ⟨x, hx⟩ : ∃ x, xs.getD i 0 = x := ⟨_, rfl⟩
   rw [hx] at qx
   have HX := Lib.hid hx
   clear hcs hx
   by_cases c0 : x = 0
   ·subst c0
    go_wp2_with fail
    go_roundw
    case rel => exact ⟨by first | rfl | trivial, i + 1, by first | rfl | go_num, by omega, show Hid _ from fun j hj => by
     by_cases c : j = i
     ·subst c; exact HX.out
     ·exact HZ.out j (by omega)⟩
    case measure => simp [intOf] <;> omega
   ·have dx : decide (x = 0) = false := decide_eq_false c0
    have dx2 : (x != 0) = true := by simp [c0]
    go_wp2_with fail
    go_ret
    exact ⟨by rw [← HR.out, orL_at ci HZ.out (by rw [HX.out]; exact c0), HX.out]; rfl, rfl⟩
  ·have : i = xs.length := by omega
   subst this
   go_wp2_with fail
   go_ret
   refine ⟨?_, rfl⟩
   rw [← HR.out, orL_skip (Nat.le_refl _) HZ.out]
   simp [orL]
def cfN (x y : NQ) : Int := orL [Lib.compareInt y.levels x.levels, Lib.compareInt y.size x.size, Lib.compareInt x.num y.num]
theorem three_blocks (w : World) (A B C : Obj) : (((w.alloc A).alloc B).drew).alloc C = grow (w.drewN 1) #[A, B, C] := by
 simp only [alloc_eq_grow]
 show grow (grow (grow (w.drewN 1) #[A]) #[B]) #[C] = _
 rw [grow_grow, grow_grow]
 rfl
set_option maxRecDepth 100000 in
set_option maxHeartbeats 3200000 in
theorem worse_any (x y : NQ) (w : World) : Calls Tryz.prog 129 #[.agg (encN x).toArray, .agg (encN y).toArray] w fun e w' => e = .returned (.int .i64 (cfN x y)) ∧ ∃ q os', w' = grow (w.drewN q) os' := by
 obtain ⟨xn, xs, xl, xm⟩ := x
 obtain ⟨yn, ys, yl, ym⟩ := y
 unfold cfN
 dsimp only
 obtain ⟨c1, h1⟩ : ∃ c, Lib.compareInt yl xl = c := ⟨_, rfl⟩
 obtain ⟨c2, h2⟩ : ∃ c, Lib.compareInt ys xs = c := ⟨_, rfl⟩
 obtain ⟨c3, h3⟩ : ∃ c, Lib.compareInt xn yn = c := ⟨_, rfl⟩
 have k1 : ∀ W : World, Calls Tryz.prog 93 #[.int .i64 yl, .int .i64 xl] W fun e w' => e = .returned (.int .i64 (Lib.compareInt yl xl)) ∧ W = w' := fun W => (Tryz.cmp_Compare_int yl xl W).mono fun _ _ h => ⟨h.1, h.2.symm⟩
 have k2 : ∀ W : World, Calls Tryz.prog 93 #[.int .i64 ys, .int .i64 xs] W fun e w' => e = .returned (.int .i64 (Lib.compareInt ys xs)) ∧ W = w' := fun W => (Tryz.cmp_Compare_int ys xs W).mono fun _ _ h => ⟨h.1, h.2.symm⟩
 have k3 : ∀ W : World, Calls Tryz.prog 93 #[.int .i64 xn, .int .i64 yn] W fun e w' => e = .returned (.int .i64 (Lib.compareInt xn yn)) ∧ W = w' := fun W => (Tryz.cmp_Compare_int xn yn W).mono fun _ _ h => ⟨h.1, h.2.symm⟩
 rw [h1] at k1 ⊢
 rw [h2] at k2 ⊢
 rw [h3] at k3 ⊢
 have r1 : InI64 c1 := by rw [← h1]; unfold Lib.compareInt InI64; split <;> (try split) <;> omega
 have r2 : InI64 c2 := by rw [← h2]; unfold Lib.compareInt InI64; split <;> (try split) <;> omega
 have r3 : InI64 c3 := by rw [← h3]; unfold Lib.compareInt InI64; split <;> (try split) <;> omega
 have K1 := Lib.hid k1
 have K2 := Lib.hid k2
 have K3 := Lib.hid k3
 have RR := Lib.hid (And.intro r1 (And.intro r2 r3))
 clear h1 h2 h3 k1 k2 k3 r1 r2 r3
 obtain ⟨r, hr⟩ : ∃ r, orL [c1, c2, c3] = r := ⟨_, rfl⟩
 rw [hr]
 have HR := Lib.hid hr
 clear hr
 obtain ⟨w1, hw1⟩ : ∃ w1, w.alloc (.cells #[.int .i64 xn, .int .i64 xs, .int .i64 xl, .bool xm] 116) = w1 := ⟨_, rfl⟩
 obtain ⟨w2, hw2⟩ : ∃ w2, w1.alloc (.cells #[.int .i64 yn, .int .i64 ys, .int .i64 yl, .bool ym] 116) = w2 := ⟨_, rfl⟩
 obtain ⟨A, hA⟩ : ∃ A, w.heap.size = A := ⟨_, rfl⟩
 obtain ⟨B, hB⟩ : ∃ B, w1.heap.size = B := ⟨_, rfl⟩
 have bA1 : w1.heap[A]? = some (.cells #[.int .i64 xn, .int .i64 xs, .int .i64 xl, .bool xm] 116 (0, 0)) := by rw [← hw1, ← hA]; exact heap_alloc_new _ _
 have bA : w2.heap[A]? = some (.cells #[.int .i64 xn, .int .i64 xs, .int .i64 xl, .bool xm] 116 (0, 0)) := by rw [← hw2]; exact alloc_block bA1 _
 have bB : w2.heap[B]? = some (.cells #[.int .i64 yn, .int .i64 ys, .int .i64 yl, .bool ym] 116 (0, 0)) := by rw [← hw2, ← hB]; exact heap_alloc_new _ _
 have a0 : w2.cell? ⟨A, 0, none⟩ = some (.int .i64 xn) := by rw [cell_block bA]; rfl
 have a1 : w2.cell? ⟨A, 1, none⟩ = some (.int .i64 xs) := by rw [cell_block bA]; rfl
 have a2 : w2.cell? ⟨A, 2, none⟩ = some (.int .i64 xl) := by rw [cell_block bA]; rfl
 have b0 : w2.cell? ⟨B, 0, none⟩ = some (.int .i64 yn) := by rw [cell_block bB]; rfl
 have b1 : w2.cell? ⟨B, 1, none⟩ = some (.int .i64 ys) := by rw [cell_block bB]; rfl
 have b2 : w2.cell? ⟨B, 2, none⟩ = some (.int .i64 yl) := by rw [cell_block bB]; rfl
 have HW2 := Lib.hid (And.intro hw1 hw2)
 have hS0 : (fun w' : World => w'.cell? ⟨A, 0, none⟩ = some (.int .i64 xn) ∧ w'.cell? ⟨A, 1, none⟩ = some (.int .i64 xs) ∧ w'.cell? ⟨A, 2, none⟩ = some (.int .i64 xl) ∧ w'.cell? ⟨B, 0, none⟩ = some (.int .i64 yn) ∧ w'.cell? ⟨B, 1, none⟩ = some (.int .i64 ys) ∧ w'.cell? ⟨B, 2, none⟩ = some (.int .i64 yl)) w2.drew := ⟨a0, a1, a2, b0, b1, b2⟩
 have HS0 := Lib.hid hS0
 have HS5 := Lib.hid (show ∀ w' : World, Only (fun _ => False) w2 w' → w'.cell? ⟨A, 0, none⟩ = some (.int .i64 xn) ∧ w'.cell? ⟨A, 1, none⟩ = some (.int .i64 xs) ∧ w'.cell? ⟨A, 2, none⟩ = some (.int .i64 xl) ∧ w'.cell? ⟨B, 0, none⟩ = some (.int .i64 yn) ∧ w'.cell? ⟨B, 1, none⟩ = some (.int .i64 ys) ∧ w'.cell? ⟨B, 2, none⟩ = some (.int .i64 yl) from fun w' h => ⟨cell_keep a0 h (fun f => f), cell_keep a1 h (fun f => f), cell_keep a2 h (fun f => f), cell_keep b0 h (fun f => f), cell_keep b1 h (fun f => f), cell_keep b2 h (fun f => f)⟩)
 have HI3 := Lib.hid (show ∀ W : World, Ints (W.alloc (.cells #[.int .i64 c1, .int .i64 c2, .int .i64 c3] 3)) (.slice (some ⟨W.heap.size, 0, none⟩) 3 3) [c1, c2, c3] from fun W => ints_mk W [c1, c2, c3] 3 _ rfl (fun y hy => by
  obtain ⟨r1, r2, r3⟩ := RR.out
  simp at hy
  rcases hy with rfl | rfl | rfl
  ·exact r1
  ·exact r2
  ·exact r3) (by simp))
 clear bA1 bA bB a0 a1 a2 b0 b1 b2 hS0
 unfold encN
 dsimp only
 go_enter Tryz.func129, Tryz.ntmps129
 go_upto_region 1 with fail
 refine wp_region_G (n := 18) (E := fun _ => false) (S := fun w' : World => w'.cell? ⟨A, 0, none⟩ = some (.int .i64 xn) ∧ w'.cell? ⟨A, 1, none⟩ = some (.int .i64 xs) ∧ w'.cell? ⟨A, 2, none⟩ = some (.int .i64 xl) ∧ w'.cell? ⟨B, 0, none⟩ = some (.int .i64 yn) ∧ w'.cell? ⟨B, 1, none⟩ = some (.int .i64 ys) ∧ w'.cell? ⟨B, 2, none⟩ = some (.int .i64 yl)) (by kernel_rfl) rfl HS0.out (fun hHeld => ?_)
 refine tqW (i := 0) (v := ?_) rfl (.inr (by assumption)) ?_ ?_
 rotate_left
 ·(intro w; go_simp <;> (try with_reducible rfl))
 try simp only [Act.put, zq1, zq3, zq4, zq5, zq6]
 refine tqK (i := 1) (v := ?_) rfl ?_ ?_
 rotate_left
 ·(intro w hSw; (try dsimp only at hSw); go_simp <;> (try with_reducible rfl))
 try simp only [Act.put, zq1, zq2, zq3, zq4, zq5, zq6]
 refine tqW (i := 2) (v := ?_) rfl (.inr (by assumption)) ?_ ?_
 rotate_left
 ·(intro w; go_simp <;> (try with_reducible rfl))
 try simp only [Act.put, zq1, zq2, zq3, zq4, zq5, zq6]
 refine tqK (i := 3) (v := ?_) rfl ?_ ?_
 rotate_left
 ·(intro w hSw; (try dsimp only at hSw); go_simp <;> (try with_reducible rfl))
 try simp only [Act.put, zq1, zq2, zq3, zq4, zq5, zq6]
 refine wpAnyG_takeC (i := 4) (v := ?_) (f := 93) (args := #[.int .i64 yl, .int .i64 xl]) rfl (by kernel_rfl) (by kernel_rfl) (by kernel_rfl) rfl (by kernel_rfl) (by kernel_rfl) (fun _ _ _ h => h) (by assumption) (by rfl) ?_ ?_ ?_
 rotate_left
 ·(intro w; go_simp <;> (try with_reducible rfl))
 ·(intro w hSw; exact K1.out w)
 try simp only [Act.put, zq1, zq2, zq3, zq4, zq5, zq6]
 refine tqW (i := 5) (v := ?_) rfl (.inr (by assumption)) ?_ ?_
 rotate_left
 ·(intro w; go_simp <;> (try with_reducible rfl))
 try simp only [Act.put, zq1, zq2, zq3, zq4, zq5, zq6]
 refine tqK (i := 6) (v := ?_) rfl ?_ ?_
 rotate_left
 ·(intro w hSw; (try dsimp only at hSw); go_simp <;> (try with_reducible rfl))
 try simp only [Act.put, zq1, zq2, zq3, zq4, zq5, zq6]
 refine tqW (i := 7) (v := ?_) rfl (.inr (by assumption)) ?_ ?_
 rotate_left
 ·(intro w; go_simp <;> (try with_reducible rfl))
 try simp only [Act.put, zq1, zq2, zq3, zq4, zq5, zq6]
 refine tqK (i := 8) (v := ?_) rfl ?_ ?_
 rotate_left
 ·(intro w hSw; (try dsimp only at hSw); go_simp <;> (try with_reducible rfl))
 try simp only [Act.put, zq1, zq2, zq3, zq4, zq5, zq6]
 refine wpAnyG_takeC (i := 9) (v := ?_) (f := 93) (args := #[.int .i64 ys, .int .i64 xs]) rfl (by kernel_rfl) (by kernel_rfl) (by kernel_rfl) rfl (by kernel_rfl) (by kernel_rfl) (fun _ _ _ h => h) (by assumption) (by rfl) ?_ ?_ ?_
 rotate_left
 ·(intro w; go_simp <;> (try with_reducible rfl))
 ·(intro w hSw; exact K2.out w)
 try simp only [Act.put, zq1, zq2, zq3, zq4, zq5, zq6]
 refine tqW (i := 10) (v := ?_) rfl (.inr (by assumption)) ?_ ?_
 rotate_left
 ·(intro w; go_simp <;> (try with_reducible rfl))
 try simp only [Act.put, zq1, zq2, zq3, zq4, zq5, zq6]
 refine tqK (i := 11) (v := ?_) rfl ?_ ?_
 rotate_left
 ·(intro w hSw; (try dsimp only at hSw); go_simp <;> (try with_reducible rfl))
 try simp only [Act.put, zq1, zq2, zq3, zq4, zq5, zq6]
 refine tqW (i := 12) (v := ?_) rfl (.inr (by assumption)) ?_ ?_
 rotate_left
 ·(intro w; go_simp <;> (try with_reducible rfl))
 try simp only [Act.put, zq1, zq2, zq3, zq4, zq5, zq6]
 refine tqK (i := 13) (v := ?_) rfl ?_ ?_
 rotate_left
 ·(intro w hSw; (try dsimp only at hSw); go_simp <;> (try with_reducible rfl))
 try simp only [Act.put, zq1, zq2, zq3, zq4, zq5, zq6]
 refine wpAnyG_takeC (i := 14) (v := ?_) (f := 93) (args := #[.int .i64 xn, .int .i64 yn]) rfl (by kernel_rfl) (by kernel_rfl) (by kernel_rfl) rfl (by kernel_rfl) (by kernel_rfl) (fun _ _ _ h => h) (by assumption) (by rfl) ?_ ?_ ?_
 rotate_left
 ·(intro w; go_simp <;> (try with_reducible rfl))
 ·(intro w hSw; exact K3.out w)
 try simp only [Act.put, zq1, zq2, zq3, zq4, zq5, zq6]
 refine wpAnyG_ready (rs := [15]) (by kernel_rfl) (by simp) ?_
 refine AllReadyG.cons (i := 15) rfl (fun K hK => ?_) ?_
 ·go_simp
  refine hK.out _ _ ?_ (fun hHeld => ?_)
  ·(try dsimp only) <;> (exact HS5.out _ (by repeat (first | exact Only.refl _ _ | apply Only.drew | apply Only.alloc | apply Only.drewN)))
  clear hK K
  try simp only [Act.put, zq1, zq2, zq3, zq4, zq5, zq6]
  refine wpAnyG_ready (rs := [16]) (by kernel_rfl) (by simp) ?_
  refine AllReadyG.cons (i := 16) rfl (fun K hK => ?_) ?_
  ·(go_simp; refine (Or_any (xs := [c1, c2, c3]) (HI3.out w2.drew)).mono ?_; rintro e w5 ⟨rfl, h5⟩; subst h5; try go_wp2_with fail)
   refine hK.out _ _ ?_ (fun hHeld => ?_)
   ·(try dsimp only) <;> (exact HS5.out _ (by repeat (first | exact Only.refl _ _ | apply Only.drew | apply Only.alloc | apply Only.drewN)))
   clear hK K
   try simp only [Act.put, zq1, zq2, zq3, zq4, zq5, zq6]
   refine tqW (i := 17) (v := ?_) rfl (.inr (by assumption)) ?_ ?_
   rotate_left
   ·(intro w; go_simp <;> (try with_reducible rfl))
   try simp only [Act.put, zq1, zq2, zq3, zq4, zq5, zq6]
   refine wpAnyG_done (by kernel_rfl) ?_ _
   go_wp2_with fail
   go_ret
   obtain ⟨e1, e2⟩ := HW2.out
   refine ⟨by rw [← HR.out]; rfl, 1, #[.cells #[.int .i64 xn, .int .i64 xs, .int .i64 xl, .bool xm] 116, .cells #[.int .i64 yn, .int .i64 ys, .int .i64 yl, .bool ym] 116, .cells #[.int .i64 c1, .int .i64 c2, .int .i64 c3] 3], ?_⟩
   rw [← e2, ← e1]
   exact three_blocks _ _ _ _
  exact AllReadyG.nil
 exact AllReadyG.nil
end
end Go.Proofs.YtjedgdamommgeaaGreat

/- cmp.Or at ints. -/
import Derived.Test.YtmlfchjompfmaaaGreatDoorBase
import Derived.Deep.LoopGhost
set_option linter.unusedVariables false
namespace Go.Proofs.YtmlfchjompfmaaaGreatDoor
open Go.RowKit
def orL : List Int → Int
 | [] => 0
 | x :: r => if x = 0 then orL r else x
theorem orL_skip {xs : List Int} : ∀ {i : Nat}, i ≤ xs.length → (∀ j, j < i → xs.getD j 0 = 0) → orL xs = orL (xs.drop i)
 | 0, _, _ => by simp
 | i + 1, h, ha => by
  rw [orL_skip (i := i) (by omega) (fun j hj => ha j (by omega))]
  rw [List.drop_eq_getElem_cons (show i < xs.length by omega)]
  have := ha i (by omega)
  rw [List.getD_eq_getElem?_getD, List.getElem?_eq_getElem (show i < xs.length by omega)] at this
  simp only [Option.getD_some] at this
  show (if xs[i] = 0 then _ else _) = _
  rw [if_pos this]
theorem orL_at {xs : List Int} {i : Nat} (h : i < xs.length) (ha : ∀ j, j < i → xs.getD j 0 = 0) (hn : xs.getD i 0 ≠ 0) : orL xs = xs.getD i 0 := by
 rw [orL_skip (Nat.le_of_lt h) ha, List.drop_eq_getElem_cons h]
 have e : xs.getD i 0 = xs[i] := by rw [List.getD_eq_getElem?_getD, List.getElem?_eq_getElem h]; rfl
 rw [e] at hn ⊢
 show (if xs[i] = 0 then _ else _) = _
 rw [if_neg hn]
theorem Or_any {w : World} {v : Value} {xs : List Int} (hI : Ints w v xs) : Calls Tryz.prog 32 #[v] w fun e w' => e = .returned (.int .i64 (orL xs)) ∧ w' = w := by
 obtain ⟨ao, cap, rfl, hl1, hl2⟩ := hI.shape
 obtain ⟨r, hr⟩ : ∃ r, orL xs = r := ⟨_, rfl⟩
 rw [hr]
 have HR := Lib.hid hr
 have HI := Lib.hid hI
 clear hI hr
 go_enter Tryz.func32, Tryz.ntmps32
 go_wp2_with fail
 go_loopw [5, 8] (fun _ vi wr => w = wr ∧ ∃ i : Nat, vi = .int .i64 i ∧ i ≤ xs.length ∧ Hid (∀ j, j < i → xs.getD j 0 = 0)) (fun _ v _ => xs.length - (intOf v).toNat)
 case atStart => exact ⟨rfl, 0, rfl, Nat.zero_le _, fun j hj => by omega⟩
 case round =>
  obtain ⟨rfl, i, rfl, hi, HZ⟩ := hrel
  by_cases ci : i < xs.length
  ·obtain ⟨bl, ol, rfl, _, hcs⟩ := HI.out.cells _ _ _ rfl (by omega)
   have qx := hcs i ci
   have ewi : IntKind.i64.wrap ((i : Int) + 1) = (i : Int) + 1 := by rw [IntKind.wrap_i64]; omega
   obtain ⟨x, hx⟩ : ∃ x, xs.getD i 0 = x := ⟨_, rfl⟩
   rw [hx] at qx
   have HX := Lib.hid hx
   clear hcs hx
   by_cases c0 : x = 0
   ·subst c0
    go_wp2_with fail
    go_roundw
    case rel => exact ⟨by first | rfl | trivial, i + 1, by first | rfl | go_num, by omega, show Hid _ from fun j hj => by
     by_cases c : j = i
     ·subst c; exact HX.out
     ·exact HZ.out j (by omega)⟩
    case measure => simp [intOf] <;> omega
   ·have dx : decide (x = 0) = false := decide_eq_false c0
    have dx2 : (x != 0) = true := by simp [c0]
    go_wp2_with fail
    go_ret
    exact ⟨by rw [← HR.out, orL_at ci HZ.out (by rw [HX.out]; exact c0), HX.out]; rfl, rfl⟩
  ·have : i = xs.length := by omega
   subst this
   go_wp2_with fail
   go_ret
   refine ⟨?_, rfl⟩
   rw [← HR.out, orL_skip (Nat.le_refl _) HZ.out]
   simp [orL]
theorem ints_blk {w : World} {b : Nat} {xs : List Int} {t : TypeId} {f : Nat × Nat} (h : w.heap[b]? = some (.cells (xs.map cI).toArray t f)) (hr : ∀ x ∈ xs, InI64 x) (hl : xs.length ≤ 9223372036854775807) : Ints w (.slice (some ⟨b, 0, none⟩) xs.length xs.length) xs := by
 refine ⟨⟨_, _, rfl, Nat.le_refl _, hl⟩, fun ao len cap hv hp => ?_, hr, fun len cap hv => by simp at hv⟩
 simp only [Value.slice.injEq] at hv
 obtain ⟨rfl, rfl, rfl⟩ := hv
 refine ⟨b, 0, rfl, lt_block h, fun i hi => ?_⟩
 rw [cell_block h]
 simp [List.getD_eq_getElem?_getD, hi]
theorem ints_mk (w : World) (xs : List Int) (t : TypeId) (n : Nat) (hn : n = w.heap.size) (hr : ∀ x ∈ xs, InI64 x) (hl : xs.length ≤ 9223372036854775807) : Ints (w.alloc (.cells (xs.map cI).toArray t)) (.slice (some ⟨n, 0, none⟩) xs.length xs.length) xs := by
 subst hn
 exact ints_blk (heap_alloc_new w _) hr hl
end Go.Proofs.YtmlfchjompfmaaaGreatDoor

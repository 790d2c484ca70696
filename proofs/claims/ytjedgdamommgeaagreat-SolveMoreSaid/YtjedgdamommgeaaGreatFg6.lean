/- slices.Sort and BinarySearch at numbers; what may not be forgotten; luby.Forget. -/
import Derived.Test.YtjedgdamommgeaaGreatFg5
import Derived.Test.YtjedgdamommgeaaGreatLrnB
set_option linter.unusedVariables false
namespace Go.Proofs.YtjedgdamommgeaaGreat
open Go.Shelf Go.RowKit Go.Lib Go.Sort
section
variable {w w' : World}
theorem SortI_any {v : Value} {xs : List Int} (h : w.ownsRow 0 3 1 v xs.length (xs.map cI)) (hb : xs.length ≤ 1099511627776) :
  Calls Tryz.prog 130 #[v] w fun e w' => e = .returned (.tuple #[]) ∧ w'.ownsRow 0 3 1 v xs.length ((xs.mergeSort fun x y => decide (x ≤ y)).map cI) ∧ Only (fun k => v.ownBlock = some k) w w' := by
 by_cases h0 : xs.length = 0
 ·have hx : xs = [] := List.eq_nil_of_length_eq_zero h0
  subst hx
  obtain ⟨ao, cap, rfl, _, _⟩ := own_slice h
  refine (AnyM.slices_Sort_int_none Tryz.sortA ao cap w).mono fun e w' ⟨he, hw⟩ => ⟨he, ?_, ?_⟩
  ·rw [hw]; simpa using h
  ·rw [hw]; exact Only.refl _ _
 ·obtain ⟨gb, cap, rfl, _, _⟩ := own_some h (by omega)
  have hH := own_holds h
  have hlt := own_lt h (k := gb) rfl
  refine (AnyM.slices_Sort_int Tryz.sortA gb 0 cap xs w hH hlt (by omega)).mono fun e w' ⟨he, n, os, hw⟩ => ⟨he, ?_, ?_⟩
  ·subst hw
   have h1 := own_putRow (w := Sort.ahead w n) (g := gb) (n := xs.length) (cap := cap) (e := 3) h (xs.mergeSort fun x y => decide (x ≤ y)).toArray (by simp)
   have h2 := own_only h1 (only_grow (Only.refl (fun _ => False) _) os) (fun _ _ f => f)
   simpa using h2
  ·subst hw
   refine only_grow ?_ os
   have := (only_ahead (Only.refl (fun k => k = gb) w) n).same (only_putRow (Sort.ahead w n) gb (xs.mergeSort fun x y => decide (x ≤ y)).toArray)
   exact this.mono fun i hi => by subst hi; rfl
def staysN (x : NQ) : Bool := x.mark || decide (x.size ≤ 2) || decide (x.levels ≤ 2)
theorem stays_any (x : NQ) (w : World) : Calls Tryz.prog 127 #[.agg (encN x).toArray] w fun e w' => e = .returned (.bool (staysN x)) ∧ Only (fun _ => False) w w' := by
 obtain ⟨n, s, l, m⟩ := x
 unfold staysN encN
 dsimp only
 obtain ⟨W, hW⟩ : ∃ W, w.alloc (.cells #[.int .i64 n, .int .i64 s, .int .i64 l, .bool m] 116) = W := ⟨_, rfl⟩
 obtain ⟨A, hA⟩ : ∃ A, w.heap.size = A := ⟨_, rfl⟩
 have bA : W.heap[A]? = some (.cells #[.int .i64 n, .int .i64 s, .int .i64 l, .bool m] 116 (0, 0)) := by rw [← hW, ← hA]; exact heap_alloc_new _ _
 have a1 : W.cell? ⟨A, 1, none⟩ = some (.int .i64 s) := by rw [cell_block bA]; rfl
 have a2 : W.cell? ⟨A, 2, none⟩ = some (.int .i64 l) := by rw [cell_block bA]; rfl
 have a3 : W.cell? ⟨A, 3, none⟩ = some (.bool m) := by rw [cell_block bA]; rfl
 have HO := Lib.hid (show Only (fun _ => False) w W by rw [← hW]; exact (Only.refl _ _).alloc _)
 clear bA
 cases m with
 | true =>
  go_enter Tryz.func127, Tryz.ntmps127
  go_wp2_with fail
  go_ret
  exact ⟨by simp, HO.out⟩
 | false =>
  by_cases c1 : s ≤ 2
  ·have d1 : decide (s ≤ 2) = true := decide_eq_true c1
   go_enter Tryz.func127, Tryz.ntmps127
   go_wp2_with fail
   go_ret
   exact ⟨by simp [c1], HO.out⟩
  ·have d1 : decide (s ≤ 2) = false := decide_eq_false c1
   by_cases c2 : l ≤ 2
   ·have d2 : decide (l ≤ 2) = true := decide_eq_true c2
    go_enter Tryz.func127, Tryz.ntmps127
    go_wp2_with fail
    go_ret
    exact ⟨by simp [], HO.out⟩
   ·have d2 : decide (l ≤ 2) = false := decide_eq_false c2
    go_enter Tryz.func127, Tryz.ntmps127
    go_wp2_with fail
    go_ret
    exact ⟨by simp [], HO.out⟩
theorem enter_stays : ∀ args w, (callFunc 127 args).run Tryz.prog w = .ok (.enter 127 args) w := enters_of Tryz.func127 (by kernel_rfl) rfl
theorem isNaNS_any (x : Int) (w : World) : Calls Tryz.prog 134 #[.int .i64 x] w fun e w' => e = .returned (.bool false) ∧ w' = w := by
 go_enter Tryz.func134, Tryz.ntmps134
 go_wp2_with fail
 go_ret
 exact ⟨rfl, rfl⟩
set_option maxHeartbeats 1600000 in
theorem BinS_any {v : Value} {xs : List Int} (hI : Ints w v xs) (hn : xs.length ≤ 1099511627776) (hs : xs.Pairwise (· ≤ ·)) (x : Int) :
  Calls Tryz.prog 86 #[v, .int .i64 x] w fun e w' => ∃ k : Int, e = .returned (.tuple #[.int .i64 k, .bool (xs.contains x)]) ∧ w' = w := by
 obtain ⟨ao, cap, rfl, hl1, hl2⟩ := hI.shape
 have S := Lib.hid (show ∀ a b, a ≤ b → b < xs.length → xs.getD a 0 ≤ xs.getD b 0 from fun a b hab hb => by
  rcases Nat.lt_or_ge a b with h | h
  ·have := List.pairwise_iff_getElem.1 hs a b (by omega) hb h
   simpa [List.getD_eq_getElem?_getD, List.getElem?_eq_getElem hb, List.getElem?_eq_getElem (show a < xs.length by omega)] using this
  ·obtain rfl : a = b := by omega
   exact Int.le_refl _)
 have HI := Lib.hid hI
 have HL := Lib.hid (fun a b (W : World) => Tryz.cmp_Less_int2 a b W)
 have HN := Lib.hid (fun a (W : World) => isNaNS_any a W)
 clear hI hs
 go_enter Tryz.func86, Tryz.ntmps86
 go_wp2_with fail
 go_loopw [7, 8, 9] (fun vi vj _ wr => w = wr ∧ ∃ lo hi : Nat, vi = .int .i64 lo ∧ vj = .int .i64 hi ∧ lo ≤ hi ∧ hi ≤ xs.length ∧ Hid ((∀ t, t < lo → xs.getD t 0 < x) ∧ (∀ t, hi ≤ t → t < xs.length → x ≤ xs.getD t 0))) (fun v u _ _ => (intOf u).toNat - (intOf v).toNat)
 case atStart => exact ⟨rfl, 0, xs.length, rfl, rfl, Nat.zero_le _, Nat.le_refl _, show Hid _ from ⟨fun t ht => by omega, fun t h1 h2 => by omega⟩⟩
 case round =>
  obtain ⟨rfl, lo, hi, rfl, rfl, hlh, hin, HZ⟩ := hrel
  by_cases hlt : lo < hi
  ·obtain ⟨h, hh⟩ : ∃ h, (lo + hi) / 2 = h := ⟨_, rfl⟩
   have hhz : ((lo : Int) + (hi : Int)) / 2 = (h : Int) := by omega
   have hh1 : lo ≤ h := by omega
   have hh2 : h < hi := by omega
   have hhl : h < xs.length := by omega
   have ewh : IntKind.i64.wrap ((h : Int) + 1) = (h : Int) + 1 := by rw [IntKind.wrap_i64]; omega
   obtain ⟨bl, ol, rfl, _, hcs⟩ := HI.out.cells _ _ _ rfl (by omega)
   have qx := hcs h hhl
   obtain ⟨y, hy⟩ : ∃ y, xs.getD h 0 = y := ⟨_, rfl⟩
   rw [hy] at qx
   have HY := Lib.hid hy
   have HC := Lib.hid (HL.out y x w)
   clear hcs hy
   by_cases hyx : y < x
   ·rw [show decide (y < x) = true from decide_eq_true hyx] at HC
    have HYX := Lib.hid hyx
    clear hyx
    go_wp2_with fail
    refine HC.out.mono ?_
    rintro e w1 ⟨rfl, rfl⟩
    go_wp2_with fail
    go_roundw
    case rel => exact ⟨by first | rfl | trivial, h + 1, hi, by first | rfl | go_num, by first | rfl | go_num, by omega, by omega, show Hid _ from ⟨fun t ht => by
     have := S.out t h (by omega) hhl
     rw [HY.out] at this
     have := HYX.out
     omega, HZ.out.2⟩⟩
    case measure => simp [intOf] <;> omega
   ·rw [show decide (y < x) = false from decide_eq_false hyx] at HC
    have HYX := Lib.hid hyx
    clear hyx
    go_wp2_with fail
    refine HC.out.mono ?_
    rintro e w1 ⟨rfl, rfl⟩
    go_wp2_with fail
    go_roundw
    case rel => exact ⟨by first | rfl | trivial, lo, h, by first | rfl | go_num, by first | rfl | go_num, by omega, by omega, show Hid _ from ⟨HZ.out.1, fun t h1 h2 => by
     have := S.out h t h1 h2
     rw [HY.out] at this
     have := HYX.out
     omega⟩⟩
    case measure => simp [intOf] <;> omega
  ·obtain rfl : lo = hi := by omega
   by_cases hl : lo < xs.length
   ·obtain ⟨bl, ol, rfl, _, hcs⟩ := HI.out.cells _ _ _ rfl (by omega)
    have qx := hcs lo hl
    obtain ⟨y, hy⟩ : ∃ y, xs.getD lo 0 = y := ⟨_, rfl⟩
    rw [hy] at qx
    have HY := Lib.hid hy
    clear hcs hy
    have dl : decide ((lo : Int) < (xs.length : Int)) = true := decide_eq_true (by omega)
    by_cases hyx : y = x
    ·subst hyx
     have hc : xs.contains y = true := by
      rw [List.contains_iff_mem, ← HY.out]
      exact getD_mem' 0 hl
     have HCo := Lib.hid hc
     clear hc
     go_wp2_with fail
     go_ret2
     exact ⟨(lo : Int), by rw [HCo.out]; rfl, rfl⟩
    ·have hc : xs.contains x = false := by
      cases he : xs.contains x with
      | false => rfl
      | true =>
       rw [List.contains_iff_mem] at he
       obtain ⟨t, ht, e⟩ := List.getElem_of_mem he
       have et : xs.getD t 0 = x := by simp [List.getD_eq_getElem?_getD, List.getElem?_eq_getElem ht, e]
       rcases Nat.lt_or_ge t lo with h | h
       ·have := HZ.out.1 t h; omega
       ·have h1 := HZ.out.2 lo (Nat.le_refl _) hl
        have h2 := S.out lo t h ht
        rw [HY.out] at h1 h2
        omega
     have HCo := Lib.hid hc
     have dy : decide (y = x) = false := decide_eq_false hyx
     have dy2 : (y == x) = false := by rw [beq_eq_false_iff_ne]; exact hyx
     have N1 := Lib.hid (HN.out y w)
     clear hc
     go_wp2_with fail
     refine N1.out.mono ?_
     rintro e w1 ⟨rfl, rfl⟩
     go_wp2_with fail
     go_ret2
     exact ⟨(lo : Int), by rw [HCo.out]; rfl, rfl⟩
   ·have hc : xs.contains x = false := by
     cases he : xs.contains x with
     | false => rfl
     | true =>
      rw [List.contains_iff_mem] at he
      obtain ⟨t, ht, e⟩ := List.getElem_of_mem he
      have et : xs.getD t 0 = x := by simp [List.getD_eq_getElem?_getD, List.getElem?_eq_getElem ht, e]
      have := HZ.out.1 t (by omega); omega
    have HCo := Lib.hid hc
    have dl : decide ((lo : Int) < (xs.length : Int)) = false := decide_eq_false (by omega)
    clear hc
    go_wp2_with fail
    go_ret2
    exact ⟨(lo : Int), by rw [HCo.out]; rfl, rfl⟩
end
end Go.Proofs.YtjedgdamommgeaaGreat

/- Names and values: the program's way and the document's. -/
import Derived.Test.YtmlfchjompfmaaaDoorLkS
import Derived.Test.YtmlfchjompfmaaaDoorVeA
import Derived.Test.YtmlfchjompfmaaaDoorWvB
set_option linter.unusedVariables false
namespace Go.Proofs.YtmlfchjompfmaaaDoor
open Go.RowKit
open Vn (dgs lts isDg isLt partB numB)
open Lk (nameB valueB isNc)
section
variable {w : World}
theorem isLt_lo {c : UInt8} (h : c.toNat < 97) : isLt c = false := by unfold isLt; rw [decide_eq_false]; omega
theorem isLt_hi {c : UInt8} (h : 122 < c.toNat) : isLt c = false := by unfold isLt; rw [decide_eq_false]; omega
theorem isLt_in {c : UInt8} (h : ¬ c.toNat < 97) (h2 : ¬ 122 < c.toNat) : isLt c = true := by unfold isLt; rw [decide_eq_true_eq]; omega
theorem isDg_lo {c : UInt8} (h : c.toNat < 48) : isDg c = false := by unfold isDg; rw [decide_eq_false]; omega
theorem isDg_hi {c : UInt8} (h : 57 < c.toNat) : isDg c = false := by unfold isDg; rw [decide_eq_false]; omega
theorem isDg_in {c : UInt8} (h : ¬ c.toNat < 48) (h2 : ¬ 57 < c.toNat) : isDg c = true := by unfold isDg; rw [decide_eq_true_eq]; omega
set_option maxRecDepth 100000 in
theorem letter_x (c : UInt8) (r : Bool) (hr : isLt c = r) : Calls Tryd.prog 97 #[.int .u8 (c.toNat : Int)] w (fun e w' => e = .returned (.bool r) ∧ Only (fun _ => False) w w') := by
 subst hr
 by_cases c1 : c.toNat < 97
 ·rw [isLt_lo c1]
  go_enter Tryd.func97, Tryd.ntmps97
  go_wp2_with fail
  go_ret
  exact ⟨rfl, Only.refl _ _⟩
 ·by_cases c2 : 122 < c.toNat
  ·rw [isLt_hi c2]
   have d : decide ((c.toNat : Int) ≤ 122) = false := decide_eq_false (by omega)
   go_enter Tryd.func97, Tryd.ntmps97
   go_wp2_with fail
   go_ret
   exact ⟨rfl, Only.refl _ _⟩
  ·rw [isLt_in c1 c2]
   have d : decide ((c.toNat : Int) ≤ 122) = true := decide_eq_true (by omega)
   go_enter Tryd.func97, Tryd.ntmps97
   go_wp2_with fail
   go_ret
   exact ⟨rfl, Only.refl _ _⟩
set_option maxRecDepth 100000 in
theorem digit_x (c : UInt8) (r : Bool) (hr : isDg c = r) : Calls Tryd.prog 98 #[.int .u8 (c.toNat : Int)] w (fun e w' => e = .returned (.bool r) ∧ Only (fun _ => False) w w') := by
 subst hr
 by_cases c1 : c.toNat < 48
 ·rw [isDg_lo c1]
  go_enter Tryd.func98, Tryd.ntmps98
  go_wp2_with fail
  go_ret
  exact ⟨rfl, Only.refl _ _⟩
 ·by_cases c2 : 57 < c.toNat
  ·rw [isDg_hi c2]
   have d : decide ((c.toNat : Int) ≤ 57) = false := decide_eq_false (by omega)
   go_enter Tryd.func98, Tryd.ntmps98
   go_wp2_with fail
   go_ret
   exact ⟨rfl, Only.refl _ _⟩
  ·rw [isDg_in c1 c2]
   have d : decide ((c.toNat : Int) ≤ 57) = true := decide_eq_true (by omega)
   go_enter Tryd.func98, Tryd.ntmps98
   go_wp2_with fail
   go_ret
   exact ⟨rfl, Only.refl _ _⟩
theorem head_any {s : Str} (h : 0 < s.size) : s.toList.head?.any isLt = isLt s[0] := by rw [head_at h]; rfl
theorem nameB_size {s : Str} : nameB s.toList = (decide (0 < s.size) && decide (s.size ≤ 24) && s.toList.head?.any isLt && s.toList.all isNc) := by unfold nameB; rw [size_toList]
set_option maxRecDepth 100000 in
set_option maxHeartbeats 2000000 in
theorem VName_x (s : Str) (hs : okS s) (r : Bool) (hr : nameB s.toList = r) : Calls Tryd.prog 78 #[.string s] w (fun e w' => e = .returned (.bool r) ∧ Only (fun _ => False) w w') := by
 have hs2 : s.size ≤ 9223372036854775807 := by unfold okS maxLen at hs; omega
 rw [nameB_size] at hr
 have HRes := Lib.hid hr
 clear hs hr
 have HLt : Hid (∀ (W : World) (c : UInt8) (r : Bool), isLt c = r → Calls Tryd.prog 97 #[.int .u8 (c.toNat : Int)] W (fun e w' => e = .returned (.bool r) ∧ Only (fun _ => False) W w')) := fun W c r h => letter_x c r h
 have HDg : Hid (∀ (W : World) (c : UInt8) (r : Bool), isDg c = r → Calls Tryd.prog 98 #[.int .u8 (c.toNat : Int)] W (fun e w' => e = .returned (.bool r) ∧ Only (fun _ => False) W w')) := fun W c r h => digit_x c r h
 go_enter Tryd.func78, Tryd.ntmps78
 go_wp2_with fail
 go_loopw [6] (fun vi wr => Hid (Only (fun _ => False) w wr) ∧ ∃ i : Nat, vi = .int .i64 i ∧ i ≤ s.size ∧ Hid ((s.toList.take i).all isNc = true)) (fun v _ => s.size - (RowKit.intOf v).toNat)
 case atStart => exact ⟨show Hid _ from Only.refl _ _, 0, rfl, Nat.zero_le _, show Hid _ from by simp [Hid]⟩
 case round =>
  obtain ⟨HO, i, rfl, hi, HA⟩ := hrel
  by_cases ci : i < s.size
  ·have ewi : IntKind.i64.wrap ((i : Int) + 1) = (i : Int) + 1 := by rw [IntKind.wrap_i64]; omega
   obtain ⟨b, hb⟩ : ∃ b : UInt8, s[i] = b := ⟨_, rfl⟩
   have HB := Lib.hid hb
   cases hl : isLt b with
   | true =>
    have HL := Lib.hid (HLt.out wr b true hl)
    have HN : Hid ((s.toList.take (i + 1)).all isNc = true) := by
     rw [Hid, take_all_succ ci, HA.out, HB.out, Bool.true_and]
     unfold isNc; rw [hl]; rfl
    clear hl
    go_wp2_with fail
    refine HL.out.mono ?_
    rintro e w2 ⟨rfl, O2⟩
    have HO2 := Lib.hid (HO.out.same O2)
    clear O2 HL
    go_wp2_with fail
    go_roundw
    case rel => exact ⟨HO2, i + 1, by first | rfl | go_num, by omega, HN⟩
    case measure => simp [RowKit.intOf] <;> omega
   | false =>
    have HL := Lib.hid (HLt.out wr b false hl)
    have HLf := Lib.hid hl
    clear hl
    go_wp2_with fail
    refine HL.out.mono ?_
    rintro e w2 ⟨rfl, O2⟩
    have HO2 := Lib.hid (HO.out.same O2)
    clear O2 HL
    cases hd : isDg b with
    | true =>
     have HD := Lib.hid (HDg.out w2 b true hd)
     have HN : Hid ((s.toList.take (i + 1)).all isNc = true) := by
      rw [Hid, take_all_succ ci, HA.out, HB.out, Bool.true_and]
      unfold isNc; rw [hd]; simp
     clear hd
     go_wp2_with fail
     refine HD.out.mono ?_
     rintro e w3 ⟨rfl, O3⟩
     have HO3 := Lib.hid (HO2.out.same O3)
     clear O3 HD
     go_wp2_with fail
     go_roundw
     case rel => exact ⟨HO3, i + 1, by first | rfl | go_num, by omega, HN⟩
     case measure => simp [RowKit.intOf] <;> omega
    | false =>
     have HD := Lib.hid (HDg.out w2 b false hd)
     have HDf := Lib.hid hd
     clear hd
     go_wp2_with fail
     refine HD.out.mono ?_
     rintro e w3 ⟨rfl, O3⟩
     have HO3 := Lib.hid (HO2.out.same O3)
     clear O3 HD
     by_cases c45 : b.toNat = 45
     ·have HN : Hid ((s.toList.take (i + 1)).all isNc = true) := by
       rw [Hid, take_all_succ ci, HA.out, HB.out, Bool.true_and]
       unfold isNc; rw [decide_eq_true c45]; simp
      go_wp2_with fail
      go_roundw
      case rel => exact ⟨HO3, i + 1, by first | rfl | go_num, by omega, HN⟩
      case measure => simp [RowKit.intOf] <;> omega
     ·have hrf : r = false := by
       rw [← HRes.out, all_false ci (by rw [HB.out]; unfold isNc; rw [HLf.out, HDf.out, decide_eq_false c45]; rfl), Bool.and_false]
      subst hrf
      go_wp2_with fail
      go_ret
      exact ⟨rfl, HO3.out⟩
  ·obtain rfl : i = s.size := by omega
   have HAll : Hid (s.toList.all isNc = true) := by have h := HA.out; rw [take_size] at h; exact h
   clear HA
   by_cases c0 : 0 < s.size
   ·by_cases c24 : s.size ≤ 24
    ·obtain ⟨b, hb⟩ : ∃ b : UInt8, s[0] = b := ⟨_, rfl⟩
     have hrl : isLt b = r := by rw [← HRes.out, decide_eq_true c0, decide_eq_true c24, HAll.out, head_any c0, hb]; simp
     have HL := Lib.hid (HLt.out wr b r hrl)
     clear hrl
     go_wp2_with fail
     refine HL.out.mono ?_
     rintro e w2 ⟨rfl, O2⟩
     go_wp2_with fail
     go_ret
     exact ⟨rfl, HO.out.same O2⟩
    ·have hrf : r = false := by rw [← HRes.out, decide_eq_false c24]; simp
     subst hrf
     go_wp2_with fail
     go_ret
     exact ⟨rfl, HO.out⟩
   ·have hrf : r = false := by rw [← HRes.out, decide_eq_false c0]; simp
    subst hrf
    go_wp2_with fail
    go_ret
    exact ⟨rfl, HO.out⟩
theorem valueB_of {s : Str} (h : nameB s.toList = false) : valueB s.toList = (s.toList.all isDg && decide (0 < s.size) && decide (s.size ≤ 3)) := by
 unfold valueB dgs
 rw [h, isE, size_toList, Bool.false_or]
 congr 2
 by_cases c : s.size = 0
 ·simp [c]
 ·rw [decide_eq_false c, decide_eq_true (by omega)]; rfl
set_option maxRecDepth 100000 in
set_option maxHeartbeats 2000000 in
theorem VValue_x (s : Str) (hs : okS s) (r : Bool) (hr : valueB s.toList = r) : Calls Tryd.prog 100 #[.string s] w (fun e w' => e = .returned (.bool r) ∧ Only (fun _ => False) w w') := by
 obtain ⟨n, hn⟩ : ∃ n, nameB s.toList = n := ⟨_, rfl⟩
 have HName := Lib.hid (VName_x (w := w) s hs n hn)
 have hs2 : s.size ≤ 9223372036854775807 := by unfold okS maxLen at hs; omega
 have HDg : Hid (∀ (W : World) (c : UInt8) (r : Bool), isDg c = r → Calls Tryd.prog 98 #[.int .u8 (c.toNat : Int)] W (fun e w' => e = .returned (.bool r) ∧ Only (fun _ => False) W w')) := fun W c r h => digit_x c r h
 cases n with
 | true =>
  have hrt : r = true := by rw [← hr]; unfold valueB; rw [hn]; rfl
  subst hrt
  clear hr hn hs
  go_enter Tryd.func100, Tryd.ntmps100
  go_wp2_with fail
  refine HName.out.mono ?_
  rintro e w1 ⟨rfl, O1⟩
  go_wp2_with fail
  go_ret
  exact ⟨rfl, O1⟩
 | false =>
  rw [valueB_of hn] at hr
  have HRes := Lib.hid hr
  clear hr hn hs
  go_enter Tryd.func100, Tryd.ntmps100
  go_wp2_with fail
  refine HName.out.mono ?_
  rintro e w1 ⟨rfl, O1⟩
  have HO1 := Lib.hid O1
  clear O1 HName
  go_wp2_with fail
  go_loopw [8] (fun vi wr => Hid (Only (fun _ => False) w wr) ∧ ∃ i : Nat, vi = .int .i64 i ∧ i ≤ s.size ∧ Hid ((s.toList.take i).all isDg = true)) (fun v _ => s.size - (RowKit.intOf v).toNat)
  case atStart => exact ⟨HO1, 0, rfl, Nat.zero_le _, show Hid _ from by simp [Hid]⟩
  case round =>
   obtain ⟨HO, i, rfl, hi, HA⟩ := hrel
   by_cases ci : i < s.size
   ·have ewi : IntKind.i64.wrap ((i : Int) + 1) = (i : Int) + 1 := by rw [IntKind.wrap_i64]; omega
    obtain ⟨b, hb⟩ : ∃ b : UInt8, s[i] = b := ⟨_, rfl⟩
    have HB := Lib.hid hb
    cases hd : isDg b with
    | true =>
     have HD := Lib.hid (HDg.out wr b true hd)
     have HN : Hid ((s.toList.take (i + 1)).all isDg = true) := by
      rw [Hid, take_all_succ ci, HA.out, HB.out, Bool.true_and, hd]
     clear hd
     go_wp2_with fail
     refine HD.out.mono ?_
     rintro e w3 ⟨rfl, O3⟩
     have HO3 := Lib.hid (HO.out.same O3)
     clear O3 HD
     go_wp2_with fail
     go_roundw
     case rel => exact ⟨HO3, i + 1, by first | rfl | go_num, by omega, HN⟩
     case measure => simp [RowKit.intOf] <;> omega
    | false =>
     have HD := Lib.hid (HDg.out wr b false hd)
     have hrf : r = false := by
      rw [← HRes.out, all_false ci (by rw [HB.out]; exact hd)]; simp
     subst hrf
     clear hd
     go_wp2_with fail
     refine HD.out.mono ?_
     rintro e w3 ⟨rfl, O3⟩
     go_wp2_with fail
     go_ret
     exact ⟨rfl, HO.out.same O3⟩
   ·obtain rfl : i = s.size := by omega
    have HAll : Hid (s.toList.all isDg = true) := by have h := HA.out; rw [take_size] at h; exact h
    clear HA
    by_cases c0 : 0 < s.size
    ·by_cases c3 : s.size ≤ 3
     ·have d : decide ((s.size : Int) ≤ 3) = true := decide_eq_true (by omega)
      have hrt : r = true := by rw [← HRes.out, decide_eq_true c0, decide_eq_true c3, HAll.out]; rfl
      subst hrt
      go_wp2_with fail
      go_ret
      exact ⟨rfl, HO.out⟩
     ·have d : decide ((s.size : Int) ≤ 3) = false := decide_eq_false (by omega)
      have hrf : r = false := by rw [← HRes.out, decide_eq_false c3]; simp
      subst hrf
      go_wp2_with fail
      go_ret
      exact ⟨rfl, HO.out⟩
    ·have hrf : r = false := by rw [← HRes.out, decide_eq_false c0]; simp
     subst hrf
     go_wp2_with fail
     go_ret
     exact ⟨rfl, HO.out⟩
set_option maxRecDepth 100000 in
theorem VMay_x (s : Str) (hs : okS s) (hL : Laid w) (r : Bool) (hr : mayB s.toList = r) : Calls Tryd.prog 79 #[.string s] w (fun e w' => e = .returned (.bool r) ∧ Only (fun _ => False) w w') := by
 have HP := Lib.hid (parts_x s hs hL)
 have HRes := Lib.hid hr
 clear hr hL hs
 go_enter Tryd.func79, Tryd.ntmps79
 go_wp2_with fail
 refine HP.out.mono ?_
 rintro e w1 ⟨v, ok, rfl, h1, -, O1⟩
 obtain rfl : ok = r := h1.symm.trans HRes.out
 clear h1 HP HRes
 go_wp2_with fail
 go_ret
 exact ⟨rfl, O1⟩
end
end Go.Proofs.YtmlfchjompfmaaaDoor

/- The document's names and values, its looking for a byte. -/
import Derived.Test.YtmlfchjompfmaaaDoorLkW1
set_option linter.unusedVariables false
namespace Go.Proofs.YtmlfchjompfmaaaDoor
open Go.RowKit
open Vn (dgs lts isDg isLt partB numB)
open Lk (nameB valueB isNc cutAt)
section
variable {w : World}
theorem size_pos {s : Str} (h : 0 < s.size) : (s.toList == ([] : List UInt8)) = false := by
 have := toList_ne h
 cases hl : s.toList with
 | nil => exact absurd hl this
 | cons a l => rfl
theorem nc_lo {b : UInt8} (h : b.toNat < 45) : isNc b = false := by unfold isNc; rw [isLt_lo (by omega), isDg_lo (by omega), decide_eq_false (by omega)]; rfl
theorem nc_45 {b : UInt8} (h : b.toNat = 45) : isNc b = true := by unfold isNc; rw [decide_eq_true h]; simp
theorem nc_46 {b : UInt8} (h : 45 < b.toNat) (h2 : b.toNat < 48) : isNc b = false := by unfold isNc; rw [isLt_lo (by omega), isDg_lo (by omega), decide_eq_false (by omega)]; rfl
theorem nc_dg {b : UInt8} (h : ¬ b.toNat < 48) (h2 : ¬ 57 < b.toNat) : isNc b = true := by unfold isNc; rw [isDg_in h h2]; simp
theorem nc_mid {b : UInt8} (h : 57 < b.toNat) (h2 : b.toNat < 97) : isNc b = false := by unfold isNc; rw [isLt_lo h2, isDg_hi h, decide_eq_false (by omega)]; rfl
theorem nc_lt {b : UInt8} (h : ¬ b.toNat < 97) (h2 : ¬ 122 < b.toNat) : isNc b = true := by unfold isNc; rw [isLt_in h h2]; simp
theorem nc_hi {b : UInt8} (h : 122 < b.toNat) : isNc b = false := by unfold isNc; rw [isLt_hi h, isDg_hi (by omega), decide_eq_false (by omega)]; rfl
set_option maxRecDepth 100000 in
set_option maxHeartbeats 4000000 in
theorem RName_x (s : Str) (hs : okS s) (r : Bool) (hr : nameB s.toList = r) : Calls Tryd.prog 49 #[.string s] w (fun e w' => e = .returned (.bool r) ∧ Only (fun _ => False) w w') := by
 have hs2 : s.size ≤ 9223372036854775807 := by unfold okS maxLen at hs; omega
 rw [nameB_size] at hr
 have HRes := Lib.hid hr
 clear hs hr
 by_cases c0 : s.size = 0
 ·obtain rfl := size_zero c0
  have hrf : r = false := by rw [← HRes.out]; rfl
  subst hrf
  clear HRes hs2 c0
  go_enter Tryd.func49, Tryd.ntmps49
  go_wp2_with fail
  go_ret
  exact ⟨rfl, Only.refl _ _⟩
 ·have h0 : 0 < s.size := by omega
  have he := size_pos h0
  by_cases c24 : 24 < s.size
  ·have hrf : r = false := by rw [← HRes.out, decide_eq_false (show ¬ s.size ≤ 24 by omega)]; simp
   subst hrf
   clear HRes
   go_enter Tryd.func49, Tryd.ntmps49
   go_wp2_with fail
   go_ret
   exact ⟨rfl, Only.refl _ _⟩
  ·obtain ⟨b0, hb0⟩ : ∃ b : UInt8, s[0] = b := ⟨_, rfl⟩
   by_cases c97 : b0.toNat < 97
   ·have hrf : r = false := by rw [← HRes.out, head_any h0, hb0, isLt_lo c97]; simp
    subst hrf
    clear HRes
    go_enter Tryd.func49, Tryd.ntmps49
    go_wp2_with fail
    go_ret
    exact ⟨rfl, Only.refl _ _⟩
   ·by_cases c122 : 122 < b0.toNat
    ·have hrf : r = false := by rw [← HRes.out, head_any h0, hb0, isLt_hi c122]; simp
     subst hrf
     clear HRes
     go_enter Tryd.func49, Tryd.ntmps49
     go_wp2_with fail
     go_ret
     exact ⟨rfl, Only.refl _ _⟩
    ·have HR2 : Hid (s.toList.all isNc = r) := by
      rw [← HRes.out, head_any h0, hb0, isLt_in c97 c122, decide_eq_true h0, decide_eq_true (show s.size ≤ 24 by omega)]
      simp [Hid]
     clear HRes
     go_enter Tryd.func49, Tryd.ntmps49
     go_wp2_with fail
     go_loopw [3] (fun vi wr => Hid (Only (fun _ => False) w wr) ∧ ∃ i : Nat, vi = .int .i64 i ∧ i ≤ s.size ∧ Hid ((s.toList.take i).all isNc = true)) (fun v _ => s.size - (RowKit.intOf v).toNat)
     case atStart => exact ⟨show Hid _ from Only.refl _ _, 0, rfl, Nat.zero_le _, show Hid _ from by simp [Hid]⟩
     case round =>
      obtain ⟨HO, i, rfl, hi, HA⟩ := hrel
      by_cases ci : i < s.size
      ·have ewi : IntKind.i64.wrap ((i : Int) + 1) = (i : Int) + 1 := by rw [IntKind.wrap_i64]; omega
       obtain ⟨b, hb⟩ : ∃ b : UInt8, s[i] = b := ⟨_, rfl⟩
       have HB := Lib.hid hb
       have hyes : isNc b = true → Hid ((s.toList.take (i + 1)).all isNc = true) := fun h => by rw [Hid, take_all_succ ci, HA.out, HB.out, h]; rfl
       have hno : isNc b = false → r = false := fun h => by rw [← HR2.out]; exact all_false ci (by rw [HB.out]; exact h)
       have HYes := Lib.hid hyes
       have HNo := Lib.hid hno
       clear hyes hno
       by_cases d1 : b.toNat < 97
       ·by_cases d2 : b.toNat < 48
        ·have q : decide ((b.toNat : Int) = 45) = decide (b.toNat = 45) := decide_eq_decide.2 (by omega)
         by_cases d3 : b.toNat = 45
         ·have HN := HYes.out (nc_45 d3)
          go_wp2_with fail
          all_goals exact ⟨⟨HO, i + 1, by first | rfl | go_num, by omega, HN⟩, by simp [RowKit.intOf] <;> omega⟩
         ·have hrf : r = false := HNo.out (by by_cases d4 : b.toNat < 45; exact nc_lo d4; exact nc_46 (by omega) d2)
          subst hrf
          have q2 : ((b.toNat : Int) == 45) = false := by rw [beq_eq_false_iff_ne]; omega
          go_wp2_with fail
          all_goals (go_ret; exact ⟨rfl, HO.out⟩)
        ·by_cases d3 : 57 < b.toNat
         ·have hrf : r = false := HNo.out (nc_mid d3 d1)
          subst hrf
          have d4 : ¬ b.toNat = 45 := by omega
          have q1 : decide ((b.toNat : Int) ≤ 57) = false := decide_eq_false (by omega)
          have q2 : ((b.toNat : Int) == 45) = false := by rw [beq_eq_false_iff_ne]; omega
          go_wp2_with fail
          all_goals (go_ret; exact ⟨rfl, HO.out⟩)
         ·have HN := HYes.out (nc_dg d2 d3)
          have q1 : decide ((b.toNat : Int) ≤ 57) = true := decide_eq_true (by omega)
          go_wp2_with fail
          all_goals exact ⟨⟨HO, i + 1, by first | rfl | go_num, by omega, HN⟩, by simp [RowKit.intOf] <;> omega⟩
       ·by_cases d2 : 122 < b.toNat
        ·have hrf : r = false := HNo.out (nc_hi d2)
         subst hrf
         have d3 : ¬ b.toNat < 48 := by omega
         have d5 : 57 < b.toNat := by omega
         have d4 : ¬ b.toNat = 45 := by omega
         have q0 : decide ((b.toNat : Int) ≤ 122) = false := decide_eq_false (by omega)
         have q1 : decide ((b.toNat : Int) ≤ 57) = false := decide_eq_false (by omega)
         have q2 : ((b.toNat : Int) == 45) = false := by rw [beq_eq_false_iff_ne]; omega
         go_wp2_with fail
         all_goals (go_ret; exact ⟨rfl, HO.out⟩)
        ·have HN := HYes.out (nc_lt d1 d2)
         have q1 : decide ((b.toNat : Int) ≤ 122) = true := decide_eq_true (by omega)
         go_wp2_with fail
         all_goals exact ⟨⟨HO, i + 1, by first | rfl | go_num, by omega, HN⟩, by simp [RowKit.intOf] <;> omega⟩
      ·obtain rfl : i = s.size := by omega
       have hrt : r = true := by rw [← HR2.out, ← HA.out, take_size]
       subst hrt
       go_wp2_with fail
       go_ret
       exact ⟨rfl, HO.out⟩
set_option maxRecDepth 100000 in
theorem RValue_x (s : Str) (hs : okS s) (r : Bool) (hr : valueB s.toList = r) : Calls Tryd.prog 50 #[.string s] w (fun e w' => e = .returned (.bool r) ∧ Only (fun _ => False) w w') := by
 obtain ⟨n, hn⟩ : ∃ n, nameB s.toList = n := ⟨_, rfl⟩
 obtain ⟨d, hd⟩ : ∃ n, dgs s.toList = n := ⟨_, rfl⟩
 have HName := Lib.hid (RName_x (w := w) s hs n hn)
 have HDg : Hid (∀ W, Calls Tryd.prog 42 #[.string s] W (fun e w' => e = .returned (.bool d) ∧ Only (fun _ => False) W w')) := fun W => Digits_x s hs d hd
 have hs2 : s.size ≤ 9223372036854775807 := by unfold okS maxLen at hs; omega
 have hr2 : (n || d && decide (s.size ≤ 3)) = r := by rw [← hr, ← hn, ← hd, ← size_toList]; rfl
 clear hr hn hd hs
 go_enter Tryd.func50, Tryd.ntmps50
 go_wp2_with fail
 refine HName.out.mono ?_
 rintro e w1 ⟨rfl, O1⟩
 have HO1 := Lib.hid O1
 clear O1 HName
 cases n with
 | true =>
  have hrt : r = true := by rw [← hr2]; rfl
  subst hrt
  clear hr2
  go_wp2_with fail
  go_ret
  exact ⟨rfl, HO1.out⟩
 | false =>
  have HD := Lib.hid (HDg.out w1)
  have HR := Lib.hid hr2
  clear hr2 HDg
  go_wp2_with fail
  refine HD.out.mono ?_
  rintro e w2 ⟨rfl, O2⟩
  have HO2 := Lib.hid (HO1.out.same O2)
  clear O2 HD
  cases d with
  | false =>
   have hrt : r = false := by rw [← HR.out]; rfl
   subst hrt
   go_wp2_with fail
   go_ret
   exact ⟨rfl, HO2.out⟩
  | true =>
   have q : decide ((s.size : Int) ≤ 3) = r := by rw [← HR.out]; simp; omega
   clear HR
   go_wp2_with fail
   go_ret
   exact ⟨rfl, HO2.out⟩
end
end Go.Proofs.YtmlfchjompfmaaaDoor

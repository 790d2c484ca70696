/- The document's versions, exact: Digits, letters, part, Cut. Printed by gen_ve1.py. -/
import Derived.Test.YtmlfchjompfmaaaDoorStrA
import Derived.Test.YtmlfchjompfmaaaDoorVnP2
set_option linter.unusedVariables false
namespace Go.Proofs.YtmlfchjompfmaaaDoor
open Go.RowKit
open Vn (dgs lts isDg isLt partB numB)
section
variable {w w' : World} {B : Nat}
theorem size_toList (s : Str) : s.toList.length = s.size := by rw [ByteArray.toList_eq, Array.length_toList]; rfl
theorem toList_at {s : Str} {i : Nat} (h : i < s.size) : s.toList[i]? = some s[i] := by
 rw [ByteArray.toList_eq]
 have h2 : i < s.data.toList.length := by rw [Array.length_toList]; exact h
 rw [List.getElem?_eq_getElem h2]
 rfl
theorem toList_get {s : Str} {i : Nat} (h : i < s.toList.length) (h' : i < s.size) : s.toList[i] = s[i] := by
 have := toList_at h'
 rw [List.getElem?_eq_getElem h] at this
 exact Option.some.inj this
theorem take_all_succ {s : Str} {p : UInt8 → Bool} {i : Nat} (h : i < s.size) : (s.toList.take (i + 1)).all p = ((s.toList.take i).all p && p s[i]) := by
 rw [List.take_add_one, toList_at h]
 simp [List.all_append]
theorem all_false {s : Str} {p : UInt8 → Bool} {i : Nat} (h : i < s.size) (hp : p s[i] = false) : s.toList.all p = false := by
 cases hh : s.toList.all p
 ·rfl
 ·rw [List.all_eq_true] at hh
  have := hh s[i] (List.mem_of_getElem? (toList_at h))
  rw [this] at hp
  cases hp
theorem take_size (s : Str) : s.toList.take s.size = s.toList := List.take_of_length_le (by rw [size_toList]; exact Nat.le_refl _)
theorem isE {s : Str} : s.toList.isEmpty = decide (s.size = 0) := by
 rw [← size_toList]
 cases s.toList <;> simp
set_option maxRecDepth 100000 in
theorem Digits_x (s : Str) (hs : okS s) (r : Bool) (hr : dgs s.toList = r) : Calls Tryd.prog 42 #[.string s] w (fun e w' => e = .returned (.bool r) ∧ Only (fun _ => False) w w') := by
 have hs2 : s.size ≤ 9223372036854775807 := by unfold okS maxLen at hs; omega
 unfold dgs at hr
 rw [isE] at hr
 have HRes := Lib.hid hr
 clear hs hr
 by_cases h0 : s.size = 0
 ·have hrf : r = false := by
   rw [← HRes.out, decide_eq_true h0, Bool.not_true, Bool.and_false]
  subst hrf
  clear HRes
  obtain rfl := size_zero h0
  clear hs2 h0
  go_enter Tryd.func42, Tryd.ntmps42
  go_wp2_with fail
  go_loopw [3] (fun vi wr => IdxRel w 0 vi wr) (fun v _ => 0 - (RowKit.intOf v).toNat)
  case atStart => exact ⟨show Hid _ from Only.refl _ _, 0, rfl, Nat.zero_le _⟩
  case round =>
   obtain ⟨HO, i, rfl, hi⟩ := hrel
   obtain rfl : i = 0 := by omega
   go_wp2_with fail
   go_ret
   exact ⟨rfl, HO.out⟩
 ·have hemp : s.toList.isEmpty = false := by rw [isE, decide_eq_false h0]
  have HR2 : Hid (s.toList.all isDg = r) := by
   rw [← HRes.out, decide_eq_false h0, Bool.not_false, Bool.and_true]
   exact rfl
  clear h0 HRes
  go_enter Tryd.func42, Tryd.ntmps42
  go_wp2_with fail
  go_loopw [3] (fun vi wr => Hid (Only (fun _ => False) w wr) ∧ ∃ i : Nat, vi = .int .i64 i ∧ i ≤ s.size ∧ Hid ((s.toList.take i).all isDg = true)) (fun v _ => s.size - (RowKit.intOf v).toNat)
  case atStart => exact ⟨show Hid _ from Only.refl _ _, 0, rfl, Nat.zero_le _, show Hid _ from by simp [Hid]⟩
  case round =>
   obtain ⟨HO, i, rfl, hi, HA⟩ := hrel
   by_cases ci : i < s.size
   ·have ewi : IntKind.i64.wrap ((i : Int) + 1) = (i : Int) + 1 := by rw [IntKind.wrap_i64]; omega
    obtain ⟨b, hb⟩ : ∃ b : UInt8, s[i] = b := ⟨_, rfl⟩
    by_cases c1 : b.toNat < 48
    ·have hrf : r = false := by
      rw [← HR2.out]
      exact all_false ci (by rw [hb]; unfold isDg; rw [decide_eq_false]; omega)
     subst hrf
     go_wp2_with fail
     all_goals (go_ret; exact ⟨rfl, HO.out⟩)
    ·by_cases c2 : 57 < b.toNat
     ·have hrf : r = false := by
       rw [← HR2.out]
       exact all_false ci (by rw [hb]; unfold isDg; rw [decide_eq_false]; omega)
      subst hrf
      go_wp2_with fail
      all_goals (go_ret; exact ⟨rfl, HO.out⟩)
     ·have HA2 : Hid ((s.toList.take (i + 1)).all isDg = true) := by
       rw [Hid, take_all_succ ci, HA.out, hb, Bool.true_and]
       unfold isDg
       rw [decide_eq_true_eq]
       omega
      go_wp2_with fail
      all_goals exact ⟨⟨HO, i + 1, by first | rfl | go_num, by omega, HA2⟩, by simp [RowKit.intOf] <;> omega⟩
   ·obtain rfl : i = s.size := by omega
    have hrt : r = true := by
     rw [← HR2.out, ← HA.out, take_size]
    subst hrt
    go_wp2_with fail
    go_ret
    exact ⟨rfl, HO.out⟩
set_option maxRecDepth 100000 in
theorem Letters_x (s : Str) (hs : okS s) (r : Bool) (hr : lts s.toList = r) : Calls Tryd.prog 41 #[.string s] w (fun e w' => e = .returned (.bool r) ∧ Only (fun _ => False) w w') := by
 have hs2 : s.size ≤ 9223372036854775807 := by unfold okS maxLen at hs; omega
 unfold lts at hr
 rw [isE] at hr
 have HRes := Lib.hid hr
 clear hs hr
 by_cases h0 : s.size = 0
 ·have hrf : r = false := by
   rw [← HRes.out, decide_eq_true h0, Bool.not_true, Bool.and_false]
  subst hrf
  clear HRes
  obtain rfl := size_zero h0
  clear hs2 h0
  go_enter Tryd.func41, Tryd.ntmps41
  go_wp2_with fail
  go_loopw [3] (fun vi wr => IdxRel w 0 vi wr) (fun v _ => 0 - (RowKit.intOf v).toNat)
  case atStart => exact ⟨show Hid _ from Only.refl _ _, 0, rfl, Nat.zero_le _⟩
  case round =>
   obtain ⟨HO, i, rfl, hi⟩ := hrel
   obtain rfl : i = 0 := by omega
   go_wp2_with fail
   go_ret
   exact ⟨rfl, HO.out⟩
 ·have hemp : s.toList.isEmpty = false := by rw [isE, decide_eq_false h0]
  have HR2 : Hid (s.toList.all isLt = r) := by
   rw [← HRes.out, decide_eq_false h0, Bool.not_false, Bool.and_true]
   exact rfl
  clear h0 HRes
  go_enter Tryd.func41, Tryd.ntmps41
  go_wp2_with fail
  go_loopw [3] (fun vi wr => Hid (Only (fun _ => False) w wr) ∧ ∃ i : Nat, vi = .int .i64 i ∧ i ≤ s.size ∧ Hid ((s.toList.take i).all isLt = true)) (fun v _ => s.size - (RowKit.intOf v).toNat)
  case atStart => exact ⟨show Hid _ from Only.refl _ _, 0, rfl, Nat.zero_le _, show Hid _ from by simp [Hid]⟩
  case round =>
   obtain ⟨HO, i, rfl, hi, HA⟩ := hrel
   by_cases ci : i < s.size
   ·have ewi : IntKind.i64.wrap ((i : Int) + 1) = (i : Int) + 1 := by rw [IntKind.wrap_i64]; omega
    obtain ⟨b, hb⟩ : ∃ b : UInt8, s[i] = b := ⟨_, rfl⟩
    by_cases c1 : b.toNat < 97
    ·have hrf : r = false := by
      rw [← HR2.out]
      exact all_false ci (by rw [hb]; unfold isLt; rw [decide_eq_false]; omega)
     subst hrf
     go_wp2_with fail
     all_goals (go_ret; exact ⟨rfl, HO.out⟩)
    ·by_cases c2 : 122 < b.toNat
     ·have hrf : r = false := by
       rw [← HR2.out]
       exact all_false ci (by rw [hb]; unfold isLt; rw [decide_eq_false]; omega)
      subst hrf
      go_wp2_with fail
      all_goals (go_ret; exact ⟨rfl, HO.out⟩)
     ·have HA2 : Hid ((s.toList.take (i + 1)).all isLt = true) := by
       rw [Hid, take_all_succ ci, HA.out, hb, Bool.true_and]
       unfold isLt
       rw [decide_eq_true_eq]
       omega
      go_wp2_with fail
      all_goals exact ⟨⟨HO, i + 1, by first | rfl | go_num, by omega, HA2⟩, by simp [RowKit.intOf] <;> omega⟩
   ·obtain rfl : i = s.size := by omega
    have hrt : r = true := by
     rw [← HR2.out, ← HA.out, take_size]
    subst hrt
    go_wp2_with fail
    go_ret
    exact ⟨rfl, HO.out⟩
theorem head_at {s : Str} (h : 0 < s.size) : s.toList.head? = some s[0] := by
 rw [List.head?_eq_getElem?]
 exact toList_at h
set_option maxRecDepth 100000 in
theorem part_x (s : Str) (hs : okS s) (r : Bool) (hr : partB s.toList = r) : Calls Tryd.prog 23 #[.string s] w (fun e w' => e = .returned (.bool r) ∧ Only (fun _ => False) w w') := by
 obtain ⟨bl, hbl⟩ : ∃ b, lts s.toList = b := ⟨_, rfl⟩
 obtain ⟨bd, hbd⟩ : ∃ b, dgs s.toList = b := ⟨_, rfl⟩
 have HL := Lib.hid (Letters_x (w := w) s hs bl hbl)
 have HD : Hid (∀ W, Calls Tryd.prog 42 #[.string s] W (fun e w' => e = .returned (.bool bd) ∧ Only (fun _ => False) W w')) := fun W => Digits_x s hs bd hbd
 unfold partB numB at hr
 rw [hbl, hbd, size_toList] at hr
 have hpos : bd = true → 0 < s.size := fun h => by
  rw [h] at hbd
  unfold dgs at hbd
  rw [isE] at hbd
  simp only [Bool.and_eq_true, Bool.not_eq_true', decide_eq_false_iff_not] at hbd
  omega
 clear hs hbl hbd
 go_enter Tryd.func23, Tryd.ntmps23
 go_wp2_with fail
 refine HL.out.mono ?_
 rintro e w1 ⟨rfl, O1⟩
 have HO1 := Lib.hid O1
 clear O1 HL
 cases bl with
 | true =>
  obtain rfl : true = r := by simpa using hr
  clear hr hpos
  go_wp2_with fail
  go_ret
  exact ⟨rfl, HO1.out⟩
 | false =>
  rw [Bool.false_or] at hr
  go_wp2_with fail
  refine (HD.out _).mono ?_
  rintro e w2 ⟨rfl, O2⟩
  have HO2 := Lib.hid (HO1.out.same O2)
  clear O2 HD
  cases bd with
  | false =>
   obtain rfl : false = r := by simpa using hr
   clear hr hpos
   go_wp2_with fail
   go_ret
   exact ⟨rfl, HO2.out⟩
  | true =>
   have hp := hpos rfl
   rw [Bool.true_and] at hr
   clear hpos
   by_cases h9 : s.size ≤ 9
   ·have h9' : (s.size : Int) ≤ 9 := by omega
    rw [decide_eq_true h9, Bool.true_and, head_at hp] at hr
    obtain ⟨b, hb⟩ : ∃ b : UInt8, s[0] = b := ⟨_, rfl⟩
    rw [hb] at hr
    obtain ⟨bz, hbz⟩ : ∃ z : Bool, (s.toList == [48]) = z := ⟨_, rfl⟩
    rw [hbz] at hr
    cases bz with
    | true =>
     obtain rfl : true = r := by simpa using hr
     clear hr
     go_wp2_with fail
     all_goals (go_ret; exact ⟨rfl, HO2.out⟩)
    | false =>
     rw [Bool.false_or] at hr
     by_cases h48 : b.toNat = 48
     ·have e48 : b = 48 := UInt8.toNat_inj.1 h48
      have h48' : (((b.toNat : Nat) : Int) == 48) = true := by rw [h48]; rfl
      obtain rfl : false = r := by rw [← hr, e48]; decide
      clear hr e48
      go_wp2_with fail
      all_goals (go_ret; exact ⟨rfl, HO2.out⟩)
     ·have h48' : (((b.toNat : Nat) : Int) == 48) = false := by rw [beq_eq_false_iff_ne]; omega
      have h48n : (((b.toNat : Nat) : Int) != 48) = true := by rw [bne_iff_ne]; omega
      obtain rfl : true = r := by
       rw [← hr]
       symm
       rw [bne_iff_ne]
       intro e
       have := Option.some.inj e
       rw [this] at h48
       exact h48 rfl
      clear hr
      go_wp2_with fail
      all_goals (go_ret; exact ⟨rfl, HO2.out⟩)
   ·have h9' : ¬ ((s.size : Int) ≤ 9) := by omega
    rw [decide_eq_false h9, Bool.false_and] at hr
    obtain rfl : false = r := hr
    go_wp2_with fail
    all_goals (go_ret; exact ⟨rfl, HO2.out⟩)
def cutB (c : UInt8) : List UInt8 → List (List UInt8)
 | [] => [[]]
 | b :: r => if b = c then [] :: cutB c r else match cutB c r with
  | [] => [[b]]
  | h :: t => (b :: h) :: t
theorem cutB_ne (c : UInt8) : ∀ l, cutB c l ≠ []
 | [] => by simp [cutB]
 | b :: r => by
  unfold cutB
  split
  ·simp
  ·split <;> simp
theorem cutB_none {c : UInt8} : ∀ {l : List UInt8}, (∀ b ∈ l, b ≠ c) → cutB c l = [l]
 | [], _ => rfl
 | b :: r, h => by
  have ih := cutB_none (c := c) (l := r) fun x hx => h x (List.mem_cons_of_mem _ hx)
  unfold cutB
  rw [if_neg (h b List.mem_cons_self), ih]
theorem cutB_at {c : UInt8} : ∀ {l r : List UInt8}, (∀ b ∈ l, b ≠ c) → cutB c (l ++ c :: r) = l :: cutB c r
 | [], r, _ => by
  show cutB c (c :: r) = _
  rw [cutB, if_pos rfl]
 | b :: l, r, h => by
  have ih := cutB_at (c := c) (l := l) (r := r) fun x hx => h x (List.mem_cons_of_mem _ hx)
  show cutB c (b :: (l ++ c :: r)) = _
  rw [cutB, if_neg (h b List.mem_cons_self), ih]
theorem ext_toList (s : Str) (i j : Nat) : (s.extract i j).toList = (s.toList.drop i).take (j - i) := by
 rw [ByteArray.toList_eq, ByteArray.toList_eq, ByteArray.data_extract, Array.toList_extract]
end
end Go.Proofs.YtmlfchjompfmaaaDoor

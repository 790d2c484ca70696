/- Package version: read, walked. -/
import Derived.Test.YtmlfchjompfmaaaGreatDoorWvA
set_option linter.unusedVariables false
namespace Go.Proofs.YtmlfchjompfmaaaGreatDoor
open Go.RowKit
open Vn (dgs lts isLt partB beB rankOf numOf wordOf)
section
variable {w w' : World} {B : Nat}
set_option maxRecDepth 100000 in
set_option maxHeartbeats 4000000 in
theorem read_x (s : Str) (hs : s.size ≤ 1000000) (hL : Laid w) : Calls Tryz.prog 48 #[.string s] w (fun e w' => ReadEnd s w w' e) := by
 have HW := Lib.hid (show (w.alloc (.cells #[.int .i64 0, .int .i64 0, .string ⟨#[]⟩] 82)).heap[w.heap.size]? = some (.cells #[.int .i64 0, .int .i64 0, .string ⟨#[]⟩] 82 (0, 0)) from heap_alloc_new _ _)
 have HOA := Lib.hid (show Only (fun _ => False) w (w.alloc (.cells #[.int .i64 0, .int .i64 0, .string ⟨#[]⟩] 82)) from (Only.refl _ _).alloc _)
 have HA := Lib.hid (Atoi_x s hs (hL.only HOA.out))
 have HLt : w.heap.size < (w.alloc (.cells #[.int .i64 0, .int .i64 0, .string ⟨#[]⟩] 82)).heap.size := by simp
 have HLT := Lib.hid HLt
 have HLd := Lib.hid hL
 clear hL HLt
 go_enter Tryz.func48, Tryz.ntmps48
 go_wp2_with fail
 refine HA.out.mono ?_
 rintro e w1 ⟨n, er, rfl, hcase, O1⟩
 have HO1 := Lib.hid (HOA.out.same O1)
 have HB1 := Lib.hid ((O1.block _ HLT.out (fun f => f)).trans HW.out)
 have HSZ : Hid (w.heap.size < w1.heap.size) := Nat.lt_of_lt_of_le HLT.out O1.size
 clear O1 HA HW HOA HLT
 rcases hcase with ⟨rfl, hok⟩ | ⟨⟨t, p, rfl⟩, hno⟩
 ·have hpn := Vn.partB_num hok
  have HPN := Lib.hid (Vn.part_num hok)
  clear hok
  by_cases c1 : 0 ≤ n
  ·by_cases c2 : n ≤ 999999999
   ·have HI := Lib.hid (Itoa_x (w := w1) n c1 c2 (HLd.out.only HO1.out))
    obtain ⟨z, hz⟩ : ∃ z : Str, (⟨(Lib.itoa n).toArray⟩ : ByteArray) = z := ⟨_, rfl⟩
    rw [hz] at HI
    have hz2 : Lib.itoa n = z.toList := by rw [← hz, ByteArray.toList_eq]
    rw [decide_eq_true c1, decide_eq_true c2, Bool.true_and, Bool.true_and, hz2] at hpn
    obtain ⟨b, hb⟩ : ∃ b, (z.toList == s.toList) = b := ⟨_, rfl⟩
    have hpb : partB s.toList = b := by rw [hpn, ← hb]; rw [Bool.eq_iff_iff]; simp
    have HP := Lib.hid hpb
    clear hz hz2 hpn hpb
    go_wp2_with fail
    refine HI.out.mono ?_
    rintro e w2 ⟨rfl, O2⟩
    have HO2 := Lib.hid (HO1.out.same O2)
    have HB2 := Lib.hid ((O2.block _ HSZ.out (fun f => f)).trans HB1.out)
    clear O2 HI
    go_wp2_with (refine wpList_store_row rfl 82 (.tmp 2) (.tmp 15) rfl w.heap.size #[.int .i64 2, .int .i64 n, .string ⟨#[]⟩] rfl rfl 82 #[.int .i64 0, .int .i64 0, .string ⟨#[]⟩] HB2.out (by kernel_rfl) rfl (by kernel_rfl) ?_)
    refine ret_read (p := 2) (u := 3) rfl rfl rfl rfl rfl (setRow_heap _ _ _ _ _ _ HB2.out) ?_
    refine ReadEnd.mk _ _ _ _ rfl HP.out (fun h => ?_) (HO2.out.trans (setRow_only _ _ _) (fun k hk => .inr (by omega)))
    have hq := HPN.out (HP.out.trans h)
    exact ⟨by rw [hq.1]; rfl, hq.2.1.symm, by rw [hq.2.2, ByteArray.toList_eq]⟩
   ·rw [decide_eq_false c2, Bool.and_false, Bool.false_and] at hpn
    have HP := Lib.hid hpn
    clear hpn HPN
    go_wp2_with (refine wpList_store_row rfl 82 (.tmp 2) (.tmp 15) rfl w.heap.size #[.int .i64 2, .int .i64 n, .string ⟨#[]⟩] rfl rfl 82 #[.int .i64 0, .int .i64 0, .string ⟨#[]⟩] HB1.out (by kernel_rfl) rfl (by kernel_rfl) ?_)
    refine ret_read (p := 2) (u := 3) rfl rfl rfl rfl rfl (setRow_heap _ _ _ _ _ _ HB1.out) ?_
    exact ReadEnd.mk _ _ _ _ rfl HP.out (fun h => by cases h) (HO1.out.trans (setRow_only _ _ _) (fun k hk => .inr (by omega)))
  ·rw [decide_eq_false c1, Bool.false_and, Bool.false_and] at hpn
   have HP := Lib.hid hpn
   clear hpn HPN
   go_wp2_with (refine wpList_store_row rfl 82 (.tmp 2) (.tmp 15) rfl w.heap.size #[.int .i64 2, .int .i64 n, .string ⟨#[]⟩] rfl rfl 82 #[.int .i64 0, .int .i64 0, .string ⟨#[]⟩] HB1.out (by kernel_rfl) rfl (by kernel_rfl) ?_)
   refine ret_read (p := 2) (u := 3) rfl rfl rfl rfl rfl (setRow_heap _ _ _ _ _ _ HB1.out) ?_
   exact ReadEnd.mk _ _ _ _ rfl HP.out (fun h => by cases h) (HO1.out.trans (setRow_only _ _ _) (fun k hk => .inr (by omega)))
 ·obtain ⟨r, hr⟩ : ∃ r, partB s.toList = r := ⟨_, rfl⟩
  have HP := Lib.hid hr
  have HPW : Hid (r = true → rankOf s.toList = 0 ∧ numOf s.toList = 0 ∧ wordOf s.toList = s.toList) := fun h => Vn.part_word (by rw [← Vn.partB_word hno, hr]; exact h)
  rw [Vn.partB_word hno] at hr
  unfold lts at hr
  rw [isE] at hr
  have HRes := Lib.hid hr
  clear hno hr
  by_cases h0 : s.size = 0
  ·have hrf : r = false := by
    rw [← HRes.out, decide_eq_true h0, Bool.not_true, Bool.and_false]
   subst hrf
   obtain rfl := size_zero h0
   clear HRes h0
   go_wp2_with fail
   go_loopw [30] (fun vi wr => Hid (w1 = wr) ∧ vi = .int .i64 0) (fun _ _ => 0)
   case atStart => exact ⟨rfl, rfl⟩
   case round =>
    obtain ⟨hw, rfl⟩ := hrel
    obtain rfl := hw.out
    go_wp2_with (refine wpList_store_row rfl 82 (.tmp 2) (.tmp 46) rfl w.heap.size #[.int .i64 0, .int .i64 0, .string ⟨#[]⟩] rfl rfl 82 #[.int .i64 0, .int .i64 0, .string ⟨#[]⟩] HB1.out (by kernel_rfl) rfl (by kernel_rfl) ?_)
    refine ret_read (p := 2) (u := 3) rfl rfl rfl rfl rfl (setRow_heap _ _ _ _ _ _ HB1.out) ?_
    exact ReadEnd.mk _ _ _ _ rfl HP.out (fun h => by cases h) (HO1.out.trans (setRow_only _ _ _) (fun k hk => .inr (by omega)))
  ·have hemp : s.toList.isEmpty = false := by rw [isE, decide_eq_false h0]
   have HR2 : Hid (s.toList.all isLt = r) := by
    rw [← HRes.out, decide_eq_false h0, Bool.not_false, Bool.and_true]
    exact rfl
   clear HRes
   have hs2 : s.size ≤ 9223372036854775807 := by omega
   go_wp2_with fail
   go_loopw [30] (fun vi wr => Hid (w1 = wr) ∧ ∃ i : Nat, vi = .int .i64 i ∧ i ≤ s.size ∧ Hid ((s.toList.take i).all isLt = true)) (fun v _ => s.size - (RowKit.intOf v).toNat)
   case atStart => exact ⟨rfl, 0, rfl, Nat.zero_le _, show Hid _ from by simp [Hid]⟩
   case round =>
    obtain ⟨hw, i, rfl, hi, HA⟩ := hrel
    obtain rfl := hw.out
    by_cases ci : i < s.size
    ·have ewi : IntKind.i64.wrap ((i : Int) + 1) = (i : Int) + 1 := by rw [IntKind.wrap_i64]; omega
     obtain ⟨b, hb⟩ : ∃ b : UInt8, s[i] = b := ⟨_, rfl⟩
     by_cases c1 : b.toNat < 97
     ·have hrf : r = false := by
       rw [← HR2.out]
       exact all_false ci (by rw [hb]; unfold isLt; rw [decide_eq_false]; omega)
      subst hrf
      clear HR2
      go_wp2_with (refine wpList_store_row rfl 82 (.tmp 2) (.tmp 43) rfl w.heap.size #[.int .i64 0, .int .i64 0, .string ⟨#[]⟩] rfl rfl 82 #[.int .i64 0, .int .i64 0, .string ⟨#[]⟩] HB1.out (by kernel_rfl) rfl (by kernel_rfl) ?_)
      refine ret_read (p := 2) (u := 3) rfl rfl rfl rfl rfl (setRow_heap _ _ _ _ _ _ HB1.out) ?_
      exact ReadEnd.mk _ _ _ _ rfl HP.out (fun h => by cases h) (HO1.out.trans (setRow_only _ _ _) (fun k hk => .inr (by omega)))
     ·by_cases c2 : 122 < b.toNat
      ·have hrf : r = false := by
        rw [← HR2.out]
        exact all_false ci (by rw [hb]; unfold isLt; rw [decide_eq_false]; omega)
       subst hrf
       clear HR2
       go_wp2_with (refine wpList_store_row rfl 82 (.tmp 2) (.tmp 43) rfl w.heap.size #[.int .i64 0, .int .i64 0, .string ⟨#[]⟩] rfl rfl 82 #[.int .i64 0, .int .i64 0, .string ⟨#[]⟩] HB1.out (by kernel_rfl) rfl (by kernel_rfl) ?_)
       refine ret_read (p := 2) (u := 3) rfl rfl rfl rfl rfl (setRow_heap _ _ _ _ _ _ HB1.out) ?_
       exact ReadEnd.mk _ _ _ _ rfl HP.out (fun h => by cases h) (HO1.out.trans (setRow_only _ _ _) (fun k hk => .inr (by omega)))
      ·have HA2 : Hid ((s.toList.take (i + 1)).all isLt = true) := by
        rw [Hid, take_all_succ ci, HA.out, hb, Bool.true_and]
        unfold isLt
        rw [decide_eq_true_eq]
        omega
       go_wp2_with fail
       go_roundw
       case rel => exact ⟨by first | exact rfl | exact trivial, i + 1, by first | rfl | go_num, by omega, HA2⟩
       case measure => simp [RowKit.intOf] <;> omega
    ·obtain rfl : i = s.size := by omega
     have hrt : r = true := by
      rw [← HR2.out, ← HA.out, take_size]
     subst hrt
     clear HR2 HA
     go_wp2_with (refine wpList_store_row rfl 82 (.tmp 2) (.tmp 46) rfl w.heap.size #[.int .i64 0, .int .i64 0, .string s] rfl rfl 82 #[.int .i64 0, .int .i64 0, .string ⟨#[]⟩] HB1.out (by kernel_rfl) rfl (by kernel_rfl) ?_)
     refine ret_read (p := 2) (u := 3) rfl rfl rfl rfl rfl (setRow_heap _ _ _ _ _ _ HB1.out) ?_
     refine ReadEnd.mk _ _ _ _ rfl HP.out (fun h => ?_) (HO1.out.trans (setRow_only _ _ _) (fun k hk => .inr (by omega)))
     have hq := HPW.out (by first | rfl | trivial)
     exact ⟨by rw [hq.1]; rfl, by rw [hq.2.1]; rfl, hq.2.2.symm⟩
end
end Go.Proofs.YtmlfchjompfmaaaGreatDoor

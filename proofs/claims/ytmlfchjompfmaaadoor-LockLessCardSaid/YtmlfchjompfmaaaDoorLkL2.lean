/- LockWrites: any graph's text is the document's, or it may not be written; it is read as it was. -/
import Derived.Test.YtmlfchjompfmaaaDoorLkWG
import Derived.Test.YtmlfchjompfmaaaDoorLkVD
set_option linter.unusedVariables false
namespace Go.Proofs.YtmlfchjompfmaaaDoor
open Go.RowKit
open Lk (textG graphB parseB)
section
variable {w w' : World}
theorem text_small {g : List NodeD} {t : Str} (hs : SmallG g) (ht : t.toList = textG (toG g)) : t.size ≤ 700000 := by
 have hl := txtTo_len hs g.length (Nat.le_refl _)
 unfold txtTo at hl
 rw [List.take_length] at hl
 have h30 := hs.1
 have e2 : textG (toG g) = Lk.joinL (Lk.headL :: Lk.bodyG (toG g)) := rfl
 rw [← size_toList, ht, e2]
 omega
set_option maxRecDepth 100000 in
set_option maxHeartbeats 4000000 in
theorem LockWrites_walk {c1 : List Value} {g : List NodeD} (h1 : GraC w.heap.size w c1 g) (hL : Laid w) (hSh : w.ShapedOpen Tryd.prog) : Calls Tryd.prog 5 #[.agg c1.toArray] w (fun e w' => e = .returned (.bool true) ∧ Only (fun _ => False) w w') := by
 have hM : LaidM w := LaidM.of hL hSh
 obtain ⟨v1, rfl, r1⟩ := h1
 obtain ⟨a1, d1, rfl, k1, k2⟩ := r1.shape
 have HM := Lib.hid hM
 have HR1 : Hid (∀ W, Only (fun _ => False) w W → RowT 4 NodC W.heap.size W (.slice a1 g.length d1) g) := fun W o => (r1.keep NodC.keep (Kp.of0 o)).lift NodC.lift o.size (Nat.le_refl _)
 obtain ⟨n1, hn1⟩ : ∃ n, g.length = n := ⟨_, rfl⟩
 rw [hn1] at k1 HR1 ⊢
 obtain ⟨w0, hw0⟩ : ∃ W, w.alloc (.cells #[.slice a1 n1 d1] 39) = W := ⟨_, rfl⟩
 have hba : w0.heap[w.heap.size]? = some (.cells #[.slice a1 n1 d1] 39 (0, 0)) := by rw [← hw0]; exact heap_alloc_new _ _
 have oa : Only (fun _ => False) w w0 := by rw [← hw0]; exact (Only.refl _ _).alloc _
 have HBox : Hid (∀ W, Only (fun _ => False) w0 W → W.cell? ⟨w.heap.size, 0, none⟩ = some (.slice a1 n1 d1)) := fun W o => by rw [cell_block (only_block hba o (fun f => f))]; rfl
 have HO0 := Lib.hid oa
 have HFix : Hid (∀ W, Only (fun _ => False) w0 W → Calls Tryd.prog 15 #[] W (fun e w' => e = .returned (.bool true) ∧ Only (fun _ => False) W w')) := fun W o => fixed_x (hM.only (oa.same o))
 have bx0 := HBox.out w0 (Only.refl _ _)
 clear hba oa r1 hL hSh hM hn1 k1 k2
 go_enter Tryd.func5, Tryd.ntmps5
 go_wp2_with fail
 refine (GreatG_x (HR1.out _ HO0.out)).mono ?_
 rintro e w1 ⟨b1, rfl, O1, hs1⟩
 have HO1 := Lib.hid O1
 have HS1 := Lib.hid hs1
 have p0 := HBox.out w1 O1
 clear O1 hs1
 cases b1 with
 | true =>
  go_wp2_with fail
  refine (HFix.out w1 HO1.out).mono ?_
  rintro e w2 ⟨rfl, O2⟩
  have HO2 := Lib.hid (HO1.out.same O2)
  clear O2
  go_wp2_with fail
  go_ret
  exact ⟨rfl, HO0.out.same HO2.out⟩
 | false =>
  go_wp2_with fail
  refine (Write_x (HR1.out _ (HO0.out.same HO1.out)) (HS1.out (by trivial)) (HM.out.only (HO0.out.same HO1.out))).mono ?_
  rintro e w3 ⟨t1, ok1, rfl, O3, hk1, ht1, hz1⟩
  have HO3 := Lib.hid (HO1.out.same O3)
  have HK1 := Lib.hid hk1
  have HT1 := Lib.hid ht1
  have HZ1 := Lib.hid hz1
  have p4 := HBox.out w3 HO3.out
  have hmay : graphB (toG g) = ok1 := by rw [Bool.eq_iff_iff]; exact hk1.symm
  have HMay := Lib.hid hmay
  clear O3 hk1 ht1 hz1 hmay
  go_wp2_with fail
  refine (May28_x (HR1.out _ (HO0.out.same HO3.out)) ok1 HMay.out).mono ?_
  rintro e w4 ⟨rfl, O4⟩
  have HO4 := Lib.hid (HO3.out.same O4)
  have p6 := HBox.out w4 HO4.out
  clear O4
  cases ok1 with
  | false =>
   obtain rfl := HZ1.out (by trivial)
   go_wp2_with fail
   refine (HFix.out w4 HO4.out).mono ?_
   rintro e w5 ⟨rfl, O5⟩
   have HO5 := Lib.hid (HO4.out.same O5)
   clear O5
   go_wp2_with fail
   go_ret
   exact ⟨rfl, HO0.out.same HO5.out⟩
  | true =>
   have HTx : Hid (t1.toList = textG (toG g)) := HT1.out (by trivial)
   have HP := Lib.hid (Parse_x (w := w4) t1 (by have := text_small (HS1.out (by trivial)) HTx.out; omega) (HM.out.only (HO0.out.same HO4.out)))
   go_wp2_with fail
   refine HP.out.mono ?_
   rintro e w5 ⟨gv, ln, er, rfl, O5, hm⟩
   rw [HTx.out, Lk.parse_text HMay.out] at hm
   obtain ⟨rfl, rfl, g2, hG, hr⟩ := hm
   obtain rfl := toG_inj hG
   have HO5 := Lib.hid (HO4.out.same O5)
   obtain ⟨a2, c2, rfl, k3, k4⟩ := hr.shape
   obtain ⟨n2, hn2⟩ : ∃ n, g2.length = n := ⟨_, rfl⟩
   have HR2 := Lib.hid hr
   rw [hn2] at k3 HR2 ⊢
   obtain ⟨wb, hwb⟩ : ∃ W, (w5.alloc (.cells #[.slice a2 n2 c2] 39)).alloc (.cells #[.int .i64 0, .int .i64 0] 44) = W := ⟨_, rfl⟩
   have ob : Only (fun _ => False) w5 wb := by rw [← hwb]; exact ((Only.refl _ _).alloc _).alloc _
   have hb5 : wb.heap[w5.heap.size]? = some (.cells #[.slice a2 n2 c2] 39 (0, 0)) := by rw [← hwb]; exact only_block (heap_alloc_new w5 _) ((Only.refl (fun _ => False) _).alloc _) (fun f => f)
   have HBx : Hid (∀ W, Only (fun _ => False) wb W → W.cell? ⟨w.heap.size, 0, none⟩ = some (.slice a1 n1 d1) ∧ W.cell? ⟨w5.heap.size, 0, none⟩ = some (.slice a2 n2 c2)) := fun W o => ⟨HBox.out W (HO5.out.same (ob.same o)), by rw [cell_block (only_block hb5 o (fun f => f))]; rfl⟩
   have HOb := Lib.hid (HO5.out.same ob)
   have HR5 : Hid (∀ W, Only (fun _ => False) wb W → RowT 4 NodC W.heap.size W (.slice a2 n2 c2) g2) := fun W o => (HR2.out.keep NodC.keep (Kp.of0 (ob.same o))).lift NodC.lift (ob.same o).size (Nat.le_refl _)
   clear O5 hG hr hn2 ob hb5
   subst hwb
   go_wp2_with fail
   refine (HFix.out _ HOb.out).mono ?_
   rintro e w6 ⟨rfl, O6⟩
   have HO6 := Lib.hid O6
   obtain ⟨p7, p8⟩ := HBx.out w6 O6
   clear O6
   go_wp2_with fail
   refine (RText_x (HR1.out _ (HO0.out.same (HOb.out.same HO6.out))) (HS1.out (by trivial))).mono ?_
   rintro e w7 ⟨t2, rfl, ht2, O7⟩
   have HO7 := Lib.hid (HO6.out.same O7)
   obtain ⟨p9, p10⟩ := HBx.out w7 HO7.out
   have hteq : (t1.toList == t2.toList) = true := by rw [beq_iff_eq, HTx.out, ht2]
   clear O7 ht2
   go_wp2_with fail
   refine (RSame28_x (HR5.out _ HO7.out) (HR1.out _ (HO0.out.same (HOb.out.same HO7.out))) true ⟨fun _ => rfl, fun _ => rfl⟩).mono ?_
   rintro e w8 ⟨rfl, O8⟩
   have HO8 := Lib.hid (HO7.out.same O8)
   clear O8
   go_wp2_with fail
   go_ret
   exact ⟨rfl, HO0.out.same (HOb.out.same HO8.out)⟩
end
end Go.Proofs.YtmlfchjompfmaaaDoor

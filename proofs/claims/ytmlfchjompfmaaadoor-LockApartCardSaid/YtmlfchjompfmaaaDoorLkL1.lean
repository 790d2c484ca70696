/- LockApart: two graphs that may be written, and aren't the same, have other texts. -/
import Derived.Test.YtmlfchjompfmaaaDoorLkWG
import Derived.Test.YtmlfchjompfmaaaDoorLkWF
set_option linter.unusedVariables false
namespace Go.Proofs.YtmlfchjompfmaaaDoor
open Go.RowKit
open Lk (textG graphB parseB)
section
variable {w w' : World}
set_option maxRecDepth 100000 in
set_option maxHeartbeats 4000000 in
theorem LockApart_walk {c1 c2 : List Value} {g h : List NodeD} (h1 : GraC w.heap.size w c1 g) (h2 : GraC w.heap.size w c2 h) (hL : Laid w) (hSh : w.ShapedOpen Tryd.prog) : Calls Tryd.prog 7 #[.agg c1.toArray, .agg c2.toArray] w (fun e w' => e = .returned (.bool true) ∧ Only (fun _ => False) w w') := by
 have hM : LaidM w := LaidM.of hL hSh
 obtain ⟨v1, rfl, r1⟩ := h1
 obtain ⟨v2, rfl, r2⟩ := h2
 obtain ⟨a1, d1, rfl, k1, k2⟩ := r1.shape
 obtain ⟨a2, d2, rfl, k3, k4⟩ := r2.shape
 have HM := Lib.hid hM
 have HR1 : Hid (∀ W, Only (fun _ => False) w W → RowT 4 NodC W.heap.size W (.slice a1 g.length d1) g) := fun W o => (r1.keep NodC.keep (Kp.of0 o)).lift NodC.lift o.size (Nat.le_refl _)
 have HR2 : Hid (∀ W, Only (fun _ => False) w W → RowT 4 NodC W.heap.size W (.slice a2 h.length d2) h) := fun W o => (r2.keep NodC.keep (Kp.of0 o)).lift NodC.lift o.size (Nat.le_refl _)
 obtain ⟨n1, hn1⟩ : ∃ n, g.length = n := ⟨_, rfl⟩
 obtain ⟨n2, hn2⟩ : ∃ n, h.length = n := ⟨_, rfl⟩
 rw [hn1] at k1 HR1 ⊢
 rw [hn2] at k3 HR2 ⊢
 obtain ⟨wa, hwa⟩ : ∃ W, w.alloc (.cells #[.slice a1 n1 d1] 39) = W := ⟨_, rfl⟩
 have hba : wa.heap[w.heap.size]? = some (.cells #[.slice a1 n1 d1] 39 (0, 0)) := by rw [← hwa]; exact heap_alloc_new _ _
 have hsa : wa.heap.size = w.heap.size + 1 := by rw [← hwa]; exact Array.size_push _
 obtain ⟨w0, hw0⟩ : ∃ W, wa.alloc (.cells #[.slice a2 n2 d2] 39) = W := ⟨_, rfl⟩
 have hbb : w0.heap[w.heap.size + 1]? = some (.cells #[.slice a2 n2 d2] 39 (0, 0)) := by rw [← hw0, ← hsa]; exact heap_alloc_new _ _
 have oa : Only (fun _ => False) w wa := by rw [← hwa]; exact (Only.refl _ _).alloc _
 have ob : Only (fun _ => False) wa w0 := by rw [← hw0]; exact (Only.refl _ _).alloc _
 have hbc := only_block hba ob (fun f => f)
 have HBox : Hid (∀ W, Only (fun _ => False) w0 W → W.cell? ⟨w.heap.size, 0, none⟩ = some (.slice a1 n1 d1) ∧ W.cell? ⟨w.heap.size + 1, 0, none⟩ = some (.slice a2 n2 d2)) := fun W o => ⟨by rw [cell_block (only_block hbc o (fun f => f))]; rfl, by rw [cell_block (only_block hbb o (fun f => f))]; rfl⟩
 have HO0 := Lib.hid (oa.same ob)
 have HFix : Hid (∀ W, Only (fun _ => False) w0 W → Calls Tryd.prog 15 #[] W (fun e w' => e = .returned (.bool true) ∧ Only (fun _ => False) W w')) := fun W o => fixed_x (hM.only ((oa.same ob).same o))
 obtain ⟨bx0, bx1⟩ := HBox.out w0 (Only.refl _ _)
 clear hba hbb hbc oa ob r1 r2 hL hSh hM hn1 hn2 k1 k2 k3 k4
 go_enter Tryd.func7, Tryd.ntmps7
 go_wp2_with fail
 refine (GreatG_x (HR1.out _ HO0.out)).mono ?_
 rintro e w1 ⟨b1, rfl, O1, hs1⟩
 have HO1 := Lib.hid O1
 have HS1 := Lib.hid hs1
 obtain ⟨p0, p1⟩ := HBox.out w1 O1
 clear O1 hs1
 cases b1 with
 | true =>
  go_wp2_with fail
  refine (HFix.out w1 HO1.out).mono ?_
  rintro e w2 ⟨rfl, O2⟩
  have HO2 := Lib.hid (HO1.out.same O2)
  clear O2
  go_wp2_with fail
  go_ret
  exact ⟨rfl, HO0.out.same HO2.out⟩
 | false =>
  go_wp2_with fail
  refine (GreatG_x (HR2.out _ (HO0.out.same HO1.out))).mono ?_
  rintro e w2 ⟨b2, rfl, O2, hs2⟩
  have HO2 := Lib.hid (HO1.out.same O2)
  have HS2 := Lib.hid hs2
  obtain ⟨p2, p3⟩ := HBox.out w2 HO2.out
  clear O2 hs2
  cases b2 with
  | true =>
   go_wp2_with fail
   refine (HFix.out w2 HO2.out).mono ?_
   rintro e w3 ⟨rfl, O3⟩
   have HO3 := Lib.hid (HO2.out.same O3)
   clear O3
   go_wp2_with fail
   go_ret
   exact ⟨rfl, HO0.out.same HO3.out⟩
  | false =>
   go_wp2_with fail
   refine (Write_x (HR1.out _ (HO0.out.same HO2.out)) (HS1.out (by trivial)) (HM.out.only (HO0.out.same HO2.out))).mono ?_
   rintro e w3 ⟨t1, ok1, rfl, O3, hk1, ht1, -⟩
   have HO3 := Lib.hid (HO2.out.same O3)
   have HK1 := Lib.hid hk1
   have HT1 := Lib.hid ht1
   obtain ⟨p4, p5⟩ := HBox.out w3 HO3.out
   clear O3 hk1 ht1
   go_wp2_with fail
   refine (Write_x (HR2.out _ (HO0.out.same HO3.out)) (HS2.out (by trivial)) (HM.out.only (HO0.out.same HO3.out))).mono ?_
   rintro e w4 ⟨t2, ok2, rfl, O4, hk2, ht2, -⟩
   have HO4 := Lib.hid (HO3.out.same O4)
   have HK2 := Lib.hid hk2
   have HT2 := Lib.hid ht2
   obtain ⟨p6, p7⟩ := HBox.out w4 HO4.out
   clear O4 hk2 ht2
   cases ok1 with
   | false =>
    go_wp2_with fail
    refine (HFix.out w4 HO4.out).mono ?_
    rintro e w5 ⟨rfl, O5⟩
    have HO5 := Lib.hid (HO4.out.same O5)
    clear O5
    go_wp2_with fail
    go_ret
    exact ⟨rfl, HO0.out.same HO5.out⟩
   | true =>
    cases ok2 with
    | false =>
     go_wp2_with fail
     refine (HFix.out w4 HO4.out).mono ?_
     rintro e w5 ⟨rfl, O5⟩
     have HO5 := Lib.hid (HO4.out.same O5)
     clear O5
     go_wp2_with fail
     go_ret
     exact ⟨rfl, HO0.out.same HO5.out⟩
    | true =>
     obtain ⟨q, hq⟩ := boolOf (g = h)
     have HQ := Lib.hid hq
     have hteq : (t1.toList == t2.toList) = q := by
      rw [Bool.eq_iff_iff, beq_iff_eq, HT1.out (by trivial), HT2.out (by trivial)]
      refine Iff.trans ⟨fun e => ?_, fun e => by rw [e]⟩ HQ.out.symm
      exact toG_inj (Lk.text_inj (HK1.out.1 (by trivial)) (HK2.out.1 (by trivial)) e)
     clear hq
     go_wp2_with fail
     refine (HFix.out w4 HO4.out).mono ?_
     rintro e w5 ⟨rfl, O5⟩
     have HO5 := Lib.hid (HO4.out.same O5)
     obtain ⟨p8, p9⟩ := HBox.out w5 HO5.out
     clear O5
     go_wp2_with fail
     refine (RSame28_x (HR1.out _ (HO0.out.same HO5.out)) (HR2.out _ (HO0.out.same HO5.out)) q HQ.out).mono ?_
     rintro e w6 ⟨rfl, O6⟩
     have HO6 := Lib.hid (HO5.out.same O6)
     clear O6
     cases q <;>
     ·go_wp2_with fail
      go_ret
      exact ⟨rfl, HO0.out.same HO6.out⟩
end
end Go.Proofs.YtmlfchjompfmaaaDoor

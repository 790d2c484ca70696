/- lock.Write, and the example of the law of locks. -/
import Derived.Test.YtmlfchjompfmaaaDoorLkVC
import Derived.Test.YtmlfchjompfmaaaDoorLkVB
import Derived.Test.YtmlfchjompfmaaaDoorLkVA
set_option linter.unusedVariables false
namespace Go.Proofs.YtmlfchjompfmaaaDoor
open Go.RowKit
open Lk (textG graphB parseB)
section
variable {w w' : World}
def WriteEnd (g : List NodeD) (w w' : World) (e : Ending) : Prop := ∃ (t : Str) (ok : Bool), e = .returned (.tuple #[.string t, .bool ok]) ∧ Only (fun _ => False) w w' ∧ (ok = true ↔ graphB (toG g) = true) ∧ (ok = true → t.toList = textG (toG g)) ∧ (ok = false → t = ⟨#[]⟩)
theorem WriteEnd.mk {g : List NodeD} {w w' : World} (t : Str) (ok : Bool) (h : Only (fun _ => False) w w') (h1 : ok = true ↔ graphB (toG g) = true) (h2 : ok = true → t.toList = textG (toG g)) (h3 : ok = false → t = ⟨#[]⟩) : WriteEnd g w w' (.returned (.tuple #[.string t, .bool ok])) := ⟨t, ok, rfl, h, h1, h2, h3⟩
set_option maxRecDepth 100000 in
set_option maxHeartbeats 4000000 in
theorem Write_x {v : Value} {g : List NodeD} (hg : RowT 4 NodC w.heap.size w v g) (hs : SmallG g) (hM : LaidM w) : Calls Tryd.prog 18 #[.agg #[v]] w (fun e w' => WriteEnd g w w' e) := by
 have HG := Lib.hid hg
 have HS := Lib.hid hs
 have HM := Lib.hid hM
 obtain ⟨ao, cap, hv, k1, k2⟩ := hg.shape
 obtain ⟨n, hn⟩ : ∃ n, g.length = n := ⟨_, rfl⟩
 have HN := Lib.hid hn
 rw [hn] at hv k1
 subst hv
 obtain ⟨w0, hw0⟩ : ∃ x, w.alloc (.cells #[.slice ao n cap] 39) = x := ⟨_, rfl⟩
 have ho0 : Only (fun _ => False) w w0 := by rw [← hw0]; exact (Only.refl _ _).alloc _
 have hb0 : w0.heap[w.heap.size]? = some (.cells #[.slice ao n cap] 39 (0, 0)) := by rw [← hw0]; exact heap_alloc_new _ _
 have hsz0 : w0.heap.size = w.heap.size + 1 := by rw [← hw0]; exact Array.size_push _
 have HSz0 := Lib.hid hsz0
 have HO0 := Lib.hid ho0
 have HBox : Hid (∀ W, Only (fun _ => False) w0 W → W.cell? ⟨w.heap.size, 0, none⟩ = some (.slice ao n cap)) := fun W o => by
  rw [cell_block (only_block hb0 o (fun f => f))]; rfl
 have HText : Hid (Calls Tryd.prog 34 #[.agg #[.slice ao n cap]] w0 (fun e w' => ∃ t : Str, e = .returned (.string t) ∧ t.toList = textG (toG g) ∧ Only (fun _ => False) w0 w')) := text_x ((hg.keep NodC.keep (Kp.of0 ho0)).lift NodC.lift (by omega) (Nat.le_refl _)) hs
 have q0 := HBox.out w0 (Only.refl _ _)
 clear hg hs hM hn ho0 hb0 hsz0
 go_enter Tryd.func18, Tryd.ntmps18
 go_wp2_with fail
 refine HText.out.mono ?_
 rintro e w1 ⟨t, rfl, ht, O1⟩
 have HT := Lib.hid ht
 have HO1 := Lib.hid O1
 have hsz : t.size < 4294967281 := by
  have hl := txtTo_len HS.out g.length (Nat.le_refl _)
  unfold txtTo at hl
  rw [List.take_length] at hl
  have h30 := HS.out.1
  have e2 : textG (toG g) = Lk.joinL (Lk.headL :: Lk.bodyG (toG g)) := rfl
  rw [← size_toList, ht, e2]
  omega
 have HP := Lib.hid (Parse_x t hsz ((HM.out.only HO0.out).only O1))
 clear ht O1 hsz
 go_wp2_with fail
 refine HP.out.mono ?_
 rintro e w2 ⟨gv, ln, er, rfl, O2, hm⟩
 have HO2 := Lib.hid (HO1.out.same O2)
 cases hp : parseB t.toList with
 | error k =>
  rw [hp] at hm
  obtain ⟨-, rfl, rfl⟩ := hm
  have HPe := Lib.hid hp
  clear O2 hp
  go_wp2_with fail
  go_ret2
  refine WriteEnd.mk _ _ (HO0.out.same ((HO2.out.alloc _).alloc _)) ?_ (fun h => by cases h) (fun _ => rfl)
  refine ⟨(fun h => by cases h), fun h => ?_⟩
  have h2 := Lk.parse_text h
  rw [← HT.out, HPe.out] at h2
  cases h2
 | ok G =>
  rw [hp] at hm
  obtain ⟨rfl, rfl, g2, hG, hr⟩ := hm
  have HPe := Lib.hid hp
  have HG2 := Lib.hid hG
  have HR2 := Lib.hid hr
  obtain ⟨a2, c2, rfl, k3, k4⟩ := hr.shape
  obtain ⟨n2, hn2⟩ : ∃ n, g2.length = n := ⟨_, rfl⟩
  rw [hn2] at k3 HR2 ⊢
  obtain ⟨q, hq⟩ := boolOf (g2 = g)
  have HQ := Lib.hid hq
  clear O2 hp hG hr hn2 hq
  obtain ⟨wb, hwb⟩ : ∃ W, (w2.alloc (.cells #[.slice a2 n2 c2] 39)).alloc (.cells #[.int .i64 0, .int .i64 0] 44) = W := ⟨_, rfl⟩
  have ob : Only (fun _ => False) w2 wb := by rw [← hwb]; exact ((Only.refl _ _).alloc _).alloc _
  have b1 : wb.cell? ⟨w2.heap.size, 0, none⟩ = some (.slice a2 n2 c2) := by
   rw [← hwb, cell_block (only_block (heap_alloc_new w2 _) ((Only.refl (fun _ => False) _).alloc _) (fun f => f))]; rfl
  have b2 := HBox.out wb (HO2.out.same ob)
  have HOb := Lib.hid (HO0.out.same (HO2.out.same ob))
  have HC : Hid (Calls Tryd.prog 35 #[.agg #[.slice a2 n2 c2], .agg #[.slice ao n cap]] wb (fun e w' => e = .returned (.bool q) ∧ Only (fun _ => False) wb w')) := GSame_x (HR2.out.keep NodC.keep (Kp.of0 ob)) (HG.out.keep NodC.keep (Kp.of0 HOb.out)) q HQ.out
  have hlaw : q = true ↔ graphB (toG g) = true := by
   refine HQ.out.trans ⟨fun h => ?_, fun h => ?_⟩
   ·have h2 := (Lk.parse_some HPe.out).1
    rw [← HG2.out, h] at h2; exact h2
   ·have h2 := Lk.parse_text h
    rw [← HT.out, HPe.out, ← HG2.out] at h2
    exact toG_inj (Except.ok.inj h2)
  have HLaw := Lib.hid hlaw
  clear ob hlaw
  subst hwb
  go_wp2_with fail
  refine HC.out.mono ?_
  rintro e w5 ⟨rfl, O5⟩
  have HO5 := Lib.hid (HOb.out.same O5)
  clear O5
  cases q with
  | true =>
   go_wp2_with fail
   go_ret2
   exact WriteEnd.mk _ _ HO5.out ⟨fun _ => HLaw.out.1 (by trivial), fun _ => rfl⟩ (fun _ => HT.out) (fun h => by cases h)
  | false =>
   go_wp2_with fail
   go_ret2
   exact WriteEnd.mk _ _ HO5.out HLaw.out (fun h => by cases h) (fun _ => rfl)
end
end Go.Proofs.YtmlfchjompfmaaaDoor

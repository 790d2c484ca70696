/- What a lock's reading rests on: strings.Split, Cut, CutPrefix in the laws' words; the last node; a setting. -/
import Derived.Test.YtmlfchjompfmaaaDoorShelfL
import Derived.Test.YtmlfchjompfmaaaDoorLkW1
import Derived.Test.YtmlfchjompfmaaaDoorLkM
import Derived.Laws.ResultCell
set_option linter.unusedVariables false
namespace Go.Proofs.YtmlfchjompfmaaaDoor
open Go.RowKit
open Vn (dgs lts isDg isLt partB numB)
open Lk (nameB valueB isNc cutAt okSet)
section
variable {w w' : World} {B : Nat}
structure LaidM (w : World) : Prop where
 laid : Laid w
 max : ∃ m, w.cell? ⟨0, 0, none⟩ = some (.int .i64 m)
theorem LaidM.only (h : LaidM w) (ho : Only (fun _ => False) w w') : LaidM w' := by
 obtain ⟨m, hm⟩ := h.max
 exact ⟨h.laid.only ho, m, by rw [World.cell?_of_block (w := w) (ho.block _ (World.block_lt_of_cell? _ _ hm) (fun f => f))]; exact hm⟩
theorem LaidM.of (h : Laid w) (hs : w.ShapedOpen Tryd.prog) : LaidM w := ⟨h, Sl.laysM146.s1_3 w hs⟩
theorem toList_data (s : Str) : s.toList = s.data.toList := ByteArray.toList_eq s
theorem cut_length {c : UInt8} : ∀ (l : List UInt8), ∀ a ∈ cutB c l, a.length ≤ l.length
 | [], a, ha => by unfold cutB at ha; rw [List.mem_singleton.1 ha]; exact Nat.le_refl _
 | b :: r, a, ha => by
  have ih := cut_length (c := c) r
  unfold cutB at ha
  by_cases h : b = c
  ·rw [if_pos h] at ha
   rcases List.mem_cons.1 ha with rfl | ha
   ·simp
   ·have := ih a ha; simp; omega
  ·rw [if_neg h] at ha
   cases hc : cutB c r with
   | nil => exact absurd hc (cutB_ne c r)
   | cons x t =>
    rw [hc] at ha ih
    rcases List.mem_cons.1 ha with rfl | ha
    ·have := ih x List.mem_cons_self; simp; omega
    ·have := ih a (List.mem_cons_of_mem _ ha); simp; omega
theorem Split_x (s : Str) (hs : s.size < 4294967281) (c : UInt8) (hM : LaidM w) : Calls Tryd.prog 31 #[.string s, .string ⟨#[c]⟩] w (fun e w' => ∃ l : List Str, l.map ByteArray.toList = cutB c s.toList ∧ e = .returned (.slice (some ⟨w.heap.size, 0, none⟩) l.length l.length) ∧ w' = w.alloc (.cells (l.map Value.string).toArray 9) ∧ RowT 1 StrC w'.heap.size w' (.slice (some ⟨w.heap.size, 0, none⟩) l.length l.length) l ∧ (∀ x ∈ l, x.size ≤ s.size) ∧ l.length ≤ s.size + 1) := by
 obtain ⟨m, hm⟩ := hM.max
 have hone : 1 ≤ (⟨#[c]⟩ : ByteArray).size := Nat.le_refl 1
 have hc : Calls Tryd.prog 31 #[.string s, .string ⟨#[c]⟩] w fun e w' => e = .returned (.slice (some ⟨w.heap.size, 0, none⟩) (Lib.countB s ⟨#[c]⟩ + 1) (Lib.countB s ⟨#[c]⟩ + 1)) ∧ w' = w.alloc (.cells ((Lib.splitB ⟨#[c]⟩ 0 (Lib.countB s ⟨#[c]⟩) s).map Value.string).toArray 9) := Any.strings_Split { Sl.laysM146 with } Sl.laysM146.i9 s ⟨#[c]⟩ m w hs hm hone
 refine hc.mono ?_
 rintro e w' ⟨rfl, rfl⟩
 have hl := Lib.splitB_all ⟨#[c]⟩ hone 0 _ s rfl
 have hmap : (Lib.splitB ⟨#[c]⟩ 0 (Lib.countB s ⟨#[c]⟩) s).map ByteArray.toList = cutB c s.toList := by
  have := Lib.splitB_data ⟨#[c]⟩ 0 (Lib.countB s ⟨#[c]⟩) s
  have e1 : (fun x : ByteArray => x.data.toList) = ByteArray.toList := by funext x; rw [toList_data]
  rw [e1] at this
  rw [this, toList_data]
  exact Lk.split_cut c s.data.toList
 have hsz : ∀ x ∈ Lib.splitB ⟨#[c]⟩ 0 (Lib.countB s ⟨#[c]⟩) s, x.size ≤ s.size := fun x hx => by
  have := cut_length (c := c) s.toList x.toList (by rw [← hmap]; exact List.mem_map_of_mem hx)
  rw [size_toList, size_toList] at this
  exact this
 have hcl := Lib.countB_le ⟨#[c]⟩ hone s.size s (Nat.le_refl _)
 refine ⟨Lib.splitB ⟨#[c]⟩ 0 (Lib.countB s ⟨#[c]⟩) s, hmap, by rw [hl], rfl, ?_, hsz, by rw [hl]; omega⟩
 refine strs_read rfl ?_ fun x hx => by have := hsz x hx; unfold okS maxLen; omega
 have := World.ownsRow_lit (base := 0) (e := 9) (size := 1) w ((Lib.splitB ⟨#[c]⟩ 0 (Lib.countB s ⟨#[c]⟩) s).map Value.string).toArray (Lib.splitB ⟨#[c]⟩ 0 (Lib.countB s ⟨#[c]⟩) s).length (Nat.zero_le _) (by rw [hl]; unfold maxLen; omega) (by simp)
 simpa [strs9] using this
abbrev txt (l : List UInt8) : Str := ⟨l.toArray⟩
theorem txt_toList (l : List UInt8) : (txt l).toList = l := by rw [toList_data]
theorem txt_size (l : List UInt8) : (txt l).size = l.length := by rw [← size_toList, txt_toList]
theorem CutEq_x (s : Str) (hs : s.size < 4294967281) (hM : LaidM w) : Calls Tryd.prog 99 #[.string s, .string ⟨#[61]⟩] w (fun e w' => ∃ a b : Str, ∃ ok : Bool, e = .returned (.tuple #[.string a, .string b, .bool ok]) ∧ (match cutAt 61 s.toList with | none => ok = false | some p => ok = true ∧ a.toList = p.1 ∧ b.toList = p.2) ∧ a.size ≤ s.size ∧ b.size ≤ s.size ∧ Only (fun _ => False) w w') := by
 obtain ⟨m, hm⟩ := hM.max
 refine (Any.strings_Cut { Sl.laysM145 with } s ⟨#[61]⟩ m w hs hm).mono ?_
 rintro e w' ⟨rfl, n, rfl⟩
 have h := Lk.cut_at 61 s.toList
 rw [toList_data] at h
 refine ⟨_, _, _, rfl, ?_, ?_, ?_, (Only.refl _ _).drewN n⟩
 ·have e1 : (⟨#[61]⟩ : ByteArray).data.toList = [61] := rfl
  rw [e1, h, toList_data]
  cases hc : cutAt 61 s.data.toList with
  | none => rfl
  | some p => exact ⟨rfl, by rw [toList_data], by rw [toList_data]⟩
 ·have e1 : (⟨#[61]⟩ : ByteArray).data.toList = [61] := rfl
  rw [e1, h, txt_size, ← size_toList, toList_data]
  cases hc : cutAt 61 s.data.toList with
  | none => exact Nat.le_refl _
  | some p => have := congrArg List.length (Lk.cutAt_some hc); simp at this ⊢; omega
 ·have e1 : (⟨#[61]⟩ : ByteArray).data.toList = [61] := rfl
  rw [e1, h, txt_size, ← size_toList, toList_data]
  cases hc : cutAt 61 s.data.toList with
  | none => exact Nat.zero_le _
  | some p => have := congrArg List.length (Lk.cutAt_some hc); simp at this ⊢; omega
theorem CutPre_x (s p : Str) : Calls Tryd.prog 52 #[.string s, .string p] w (fun e w' => ∃ r : Str, e = .returned (.tuple #[.string r, .bool (p.toList.isPrefixOf s.toList)]) ∧ (p.toList.isPrefixOf s.toList = true → r.toList = s.toList.drop p.toList.length) ∧ r.size ≤ s.size ∧ w' = w) := by
 refine (Sl.strings_CutPrefix s p w).mono ?_
 rintro e w' ⟨rfl, rfl⟩
 refine ⟨_, by rw [toList_data p, toList_data s]; rfl, fun h => ?_, ?_, rfl⟩
 ·rw [toList_data] at h ⊢
  rw [toList_data, toList_data]
  unfold Lib.trimPrefix Lib.hasPrefix
  rw [toList_data] at h
  rw [if_pos h]
 ·rw [txt_size, ← size_toList, toList_data]
  unfold Lib.trimPrefix
  split
  ·simp
  ·exact Nat.le_refl _
def SetOf (l : List UInt8) (d : SetD) (ok : Bool) : Prop := match cutAt 61 l with | none => ok = false | some p => ok = okSet p ∧ d.toB = p
def SettingEnd (s : Str) (w w' : World) (e : Ending) : Prop := ∃ (d : SetD) (ok : Bool), e = .returned (.tuple #[.agg #[.string d.name, .string d.value], .bool ok]) ∧ SetOf s.toList d ok ∧ okS d.name ∧ okS d.value ∧ Only (fun _ => False) w w'
set_option maxRecDepth 100000 in
set_option maxHeartbeats 2000000 in
theorem setting_x (s : Str) (hs : s.size < 4294967281) (hM : LaidM w) : Calls Tryd.prog 81 #[.string s] w (fun e w' => SettingEnd s w w' e) := by
 have HC := Lib.hid (CutEq_x (w := w.alloc (.cells #[.string ⟨#[]⟩, .string ⟨#[]⟩] 60)) s hs (hM.only ((Only.refl _ _).alloc _)))
 have HS := Lib.hid hs
 clear hM hs
 have hb0 : (w.alloc (.cells #[.string ⟨#[]⟩, .string ⟨#[]⟩] 60)).heap[w.heap.size]? = some (.cells #[.string ⟨#[]⟩, .string ⟨#[]⟩] 60 (0, 0)) := heap_alloc_new _ _
 obtain ⟨w0, hw0⟩ : ∃ x, w.alloc (.cells #[.string ⟨#[]⟩, .string ⟨#[]⟩] 60) = x := ⟨_, rfl⟩
 have HO0 : Hid (Only (fun _ => False) w w0) := by rw [← hw0]; exact (Only.refl _ _).alloc _
 obtain ⟨P, hP⟩ : ∃ P, w.heap.size = P := ⟨_, rfl⟩
 rw [hw0] at HC hb0
 rw [hP] at hb0
 have HP := Lib.hid hP
 have HB0 := Lib.hid hb0
 clear hb0
 go_enter Tryd.func81, Tryd.ntmps81
 go_wp2_with fail
 refine HC.out.mono ?_
 rintro e w1 ⟨a, b, ok, rfl, hc, ha, hb, O1⟩
 have hka : okS a := by have := HS.out; unfold okS maxLen; omega
 have hkb : okS b := by have := HS.out; unfold okS maxLen; omega
 have HKa := Lib.hid hka
 have HKb := Lib.hid hkb
 have HCu := Lib.hid hc
 have hblk : w1.heap[P]? = some (.cells #[.string ⟨#[]⟩, .string ⟨#[]⟩] 60 (0, 0)) := (O1.block P (Array.getElem?_eq_some_iff.1 HB0.out).1 (fun f => f)).trans HB0.out
 have HO1 := Lib.hid (HO0.out.same O1)
 obtain ⟨na, hna⟩ : ∃ x, nameB a.toList = x := ⟨_, rfl⟩
 obtain ⟨vb, hvb⟩ : ∃ x, valueB b.toList = x := ⟨_, rfl⟩
 have HN : Hid (∀ W, Calls Tryd.prog 78 #[.string a] W (fun e w' => e = .returned (.bool na) ∧ Only (fun _ => False) W w')) := fun W => VName_x a HKa.out na hna
 have HV : Hid (∀ W, Calls Tryd.prog 100 #[.string b] W (fun e w' => e = .returned (.bool vb) ∧ Only (fun _ => False) W w')) := fun W => VValue_x b HKb.out vb hvb
 have HNa := Lib.hid hna
 have HVb := Lib.hid hvb
 have HBk := Lib.hid hblk
 clear hka hkb hc ha hb O1 HC hna hvb hblk
 have fin : ∀ (W : World) (r : Bool) (T : Act), Only (fun _ => False) w1 W → T.tmps.getD 2 undef = .pointer (some ⟨P, 0, none⟩) → T.tmps.getD 3 undef = .bool r → T.defers = [] → (ok && na && vb) = r →
   bodyPost Tryd.prog Tryd.f81 (fun e w' => SettingEnd s w w' e) Exit.ret T (W.setRow P #[.string a, .string b]) := by
  intro W r T hO h2 h3 hd hr
  have hb1 : W.heap[P]? = some (.cells #[.string ⟨#[]⟩, .string ⟨#[]⟩] 60 (0, 0)) := (hO.block P (Array.getElem?_eq_some_iff.1 HBk.out).1 (fun f => f)).trans HBk.out
  have hb2 := setRow_heap W P #[.string ⟨#[]⟩, .string ⟨#[]⟩] #[.string a, .string b] 60 (0, 0) hb1
  refine bodyPost_ret (v := .tuple #[.agg #[.string a, .string b], .bool r]) ?_ hd ?_
  ·rw [results_cell_tmp rfl, h2, h3]
   simp only [asAddr, Sem.run_pure, Result.andThen_ok]
   rw [run_loadVar_row _ P 60 60 #[.string a, .string b] (0, 0) _ hb2 Tryd.underlying60 rfl (by kernel_rfl)]
   rfl
  ·refine ⟨⟨a, b⟩, r, rfl, ?_, HKa.out, HKb.out, (HO1.out.same hO).trans (only_setRow1 _ _ _) (fun k hk => .inr (by rw [HP.out]; omega))⟩
   have h := HCu.out
   unfold SetOf
   cases hcc : cutAt 61 s.toList with
   | none => rw [hcc] at h; simp only at h; rw [← hr, h]; rfl
   | some p =>
    rw [hcc] at h
    simp only at h
    obtain ⟨h1, h4, h5⟩ := h
    refine ⟨?_, by simp [SetD.toB, h4, h5]⟩
    rw [← hr, h1, ← HNa.out, ← HVb.out, h4, h5]
    unfold okSet
    rw [Bool.true_and]
 have HFin := Lib.hid fin
 clear fin
 cases ok with
 | false =>
  go_wp2_with (refine wpList_store_row rfl 60 (.tmp 2) (.tmp 15) rfl P #[.string a, .string b] rfl rfl 60 #[.string ⟨#[]⟩, .string ⟨#[]⟩] HBk.out (by kernel_rfl) rfl (by first | kernel_rfl | rfl | simp [Value.oneCell']) ?_)
  refine HFin.out _ false _ (Only.refl _ _) ?_ ?_ ?_ ?_ <;> rfl
 | true =>
  have HN1 := Lib.hid (HN.out w1)
  go_wp2_with fail
  refine HN1.out.mono ?_
  rintro e w2 ⟨rfl, O2⟩
  have HO2 := Lib.hid O2
  have HB2 := Lib.hid ((O2.block P (Array.getElem?_eq_some_iff.1 HBk.out).1 (fun f => f)).trans HBk.out)
  clear O2 HN HN1
  cases na with
  | false =>
   go_wp2_with (refine wpList_store_row rfl 60 (.tmp 2) (.tmp 15) rfl P #[.string a, .string b] rfl rfl 60 #[.string ⟨#[]⟩, .string ⟨#[]⟩] HB2.out (by kernel_rfl) rfl (by first | kernel_rfl | rfl | simp [Value.oneCell']) ?_)
   refine HFin.out _ false _ HO2.out ?_ ?_ ?_ ?_ <;> rfl
  | true =>
   have HV1 := Lib.hid (HV.out w2)
   go_wp2_with fail
   refine HV1.out.mono ?_
   rintro e w3 ⟨rfl, O3⟩
   have HO3 := Lib.hid (HO2.out.same O3)
   have HB3 := Lib.hid ((O3.block P (Array.getElem?_eq_some_iff.1 HB2.out).1 (fun f => f)).trans HB2.out)
   clear O3 HV HV1
   go_wp2_with (refine wpList_store_row rfl 60 (.tmp 2) (.tmp 15) rfl P #[.string a, .string b] rfl rfl 60 #[.string ⟨#[]⟩, .string ⟨#[]⟩] HB3.out (by kernel_rfl) rfl (by first | kernel_rfl | rfl | simp [Value.oneCell']) ?_)
   refine HFin.out _ vb _ HO3.out ?_ ?_ ?_ ?_
   ·rfl
   ·rfl
   ·rfl
   ·cases vb <;> rfl
end
end Go.Proofs.YtmlfchjompfmaaaDoor

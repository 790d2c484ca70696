/- LockParses: which graph any text is, or the line that is wrong, is the document's; what is read is written as it stood. -/
import Derived.Test.YtmlfchjompfmaaaDoorLkL2
import Derived.Test.YtmlfchjompfmaaaDoorLkWM
import Derived.Laws.StructEq
set_option linter.unusedVariables false
namespace Go.Proofs.YtmlfchjompfmaaaDoor
open Go.RowKit
open Lk (textG graphB parseB)
section
variable {w w' : World}
theorem small_of {g : List NodeD} (h : graphB (toG g) = true) : SmallG g := by
 obtain ⟨h1, -, h3⟩ := Lk.graph_parts h
 have hname : ∀ s : Str, Lk.nameB s.toList = true → s.size ≤ 24 := fun s hs => by
  unfold Lk.nameB at hs
  simp only [Bool.and_eq_true, decide_eq_true_eq, size_toList] at hs
  exact hs.1.1.2
 have hval : ∀ s : Str, Lk.valueB s.toList = true → s.size ≤ 24 := fun s hs => by
  unfold Lk.valueB at hs
  simp only [Bool.or_eq_true, Bool.and_eq_true, decide_eq_true_eq, size_toList] at hs
  rcases hs with hs | hs
  ·exact hname s hs
  ·omega
 have hlen : (toG g).length = g.length := by simp [toG]
 refine ⟨by omega, fun n hn => ?_⟩
 have f := h1 n.toB (List.mem_map_of_mem hn)
 have fs : ∀ s ∈ n.sets, s.name.size ≤ 24 ∧ s.value.size ≤ 24 := fun s hs => by
  have := f.sets s.toB (List.mem_map_of_mem hs)
  exact ⟨hname _ this.1, hval _ this.2⟩
 have fn : ∀ s ∈ n.needs, s.size ≤ 24 := fun s hs => hname _ (f.needs s.toList (List.mem_map_of_mem hs))
 have e1 : n.toB.sets.length = n.sets.length := by simp [NodeD.toB]
 have e2 : n.toB.needs.length = n.needs.length := by simp [NodeD.toB]
 have a1 := hname _ f.name
 have a2 : n.version.size ≤ 40 := mayB_size f.ver
 have a3 := f.s4
 have a4 := f.n24
 exact ⟨by omega, by omega, by omega, fun s hs => by have := fs s hs; omega, by omega, fun s hs => by have := fn s hs; omega⟩
theorem fieldsWhere : (Tryd.prog.fieldsOf 44).toList = [{ name := "Line", type := 3, offset := 0, embedded := false, tag := "", pkgPath := "", byteOffset := 0 }, { name := "Col", type := 3, offset := 1, embedded := false, tag := "", pkgPath := "", byteOffset := 8 }] := by kernel_rfl
theorem eq_where (w : World) (a b : Int) : (binOp .eql 44 (.agg #[.int .i64 a, .int .i64 0]) (.agg #[.int .i64 b, .int .i64 0])).run Tryd.prog w = .ok (.bool (a == b)) w := by
 have hu : Tryd.prog.underlying 44 = some (.struct (Tryd.prog.fieldsOf 44)) := by kernel_rfl
 have hp : Tryd.prog.stoodInHeld 44 = false := by kernel_rfl
 have hs := Tryd.underlying3
 have ha := Tryd.isAgg3
 rw [run_eql_struct, run_equalIn_agg w 9999 _ _ _ hu hp, fieldsWhere]
 simp [Op.eqFields, go_sem, part, ha]
 by_cases h1 : a = b <;> simp [h1]
set_option maxRecDepth 100000 in
set_option maxHeartbeats 4000000 in
theorem LockParses_walk {s : Str} (hs : okS s) (hL : Laid w) (hSh : w.ShapedOpen Tryd.prog) : Calls Tryd.prog 6 #[.string s] w (fun e w' => e = .returned (.bool true) ∧ Only (fun _ => False) w w') := by
 have hM : LaidM w := LaidM.of hL hSh
 have HM := Lib.hid hM
 have HFix : Hid (∀ W, Only (fun _ => False) w W → Calls Tryd.prog 15 #[] W (fun e w' => e = .returned (.bool true) ∧ Only (fun _ => False) W w')) := fun W o => fixed_x (hM.only o)
 have hs2 : s.size ≤ 9223372036854775807 := by unfold okS maxLen at hs; omega
 clear hL hSh hM hs
 by_cases c5 : 5000 < s.size
 ·have d1 : decide ((5000 : Int) < (s.size : Int)) = true := decide_eq_true (by omega)
  go_enter Tryd.func6, Tryd.ntmps6
  go_wp2_with fail
  refine (HFix.out w (Only.refl _ _)).mono ?_
  rintro e w2 ⟨rfl, O2⟩
  have HO2 := Lib.hid O2
  clear O2
  go_wp2_with fail
  go_ret
  exact ⟨rfl, HO2.out⟩
 have d1 : decide ((5000 : Int) < (s.size : Int)) = false := decide_eq_false (by omega)
 have HP := Lib.hid (Parse_x s (by omega) HM.out)
 have HRp : Hid (∀ W, Calls Tryd.prog 20 #[.string s] W (fun e w' => RParseEnd s W w' e)) := fun W => RParse_x s (by omega)
 go_enter Tryd.func6, Tryd.ntmps6
 go_wp2_with fail
 refine HP.out.mono ?_
 rintro e w2 ⟨gv, ln, er, rfl, O2, hm⟩
 have HO2 := Lib.hid O2
 clear HP
 cases hp : parseB s.toList with
 | error k =>
  rw [hp] at hm
  obtain ⟨rfl, rfl, rfl⟩ := hm
  have HPe := Lib.hid hp
  have HWq := fun W => eq_where W (k : Int) (k : Int)
  obtain ⟨wb, hwb⟩ : ∃ W, (w2.alloc (.cells #[.slice none 0 0] 39)).alloc (.cells #[.int .i64 (k : Int), .int .i64 0] 44) = W := ⟨_, rfl⟩
  have ob : Only (fun _ => False) w2 wb := by rw [← hwb]; exact ((Only.refl _ _).alloc _).alloc _
  have hb1 : wb.heap[w2.heap.size]? = some (.cells #[.slice none 0 0] 39 (0, 0)) := by rw [← hwb]; exact only_block (heap_alloc_new w2 _) ((Only.refl (fun _ => False) _).alloc _) (fun f => f)
  have hb2 : wb.heap[w2.heap.size + 1]? = some (.cells #[.int .i64 (k : Int), .int .i64 0] 44 (0, 0)) := by
   have h := heap_alloc_new (w2.alloc (.cells #[.slice none 0 0] 39)) (.cells #[.int .i64 (k : Int), .int .i64 0] 44)
   rw [World.size_alloc] at h
   rw [← hwb]; exact h
  have HBx : Hid (∀ W, Only (fun _ => False) wb W → W.cell? ⟨w2.heap.size, 0, none⟩ = some (.slice none 0 0) ∧ W.cell? ⟨w2.heap.size + 1, 0, none⟩ = some (.int .i64 (k : Int)) ∧ W.cell? ⟨w2.heap.size + 1, 1, none⟩ = some (.int .i64 0)) := fun W o => by
   have e1 := only_block hb1 o (fun f => f)
   have e2 := only_block hb2 o (fun f => f)
   exact ⟨by rw [cell_block e1]; rfl, by rw [cell_block e2]; rfl, by rw [cell_block e2]; rfl⟩
  have HOb := Lib.hid (HO2.out.same ob)
  clear O2 hp ob hb1 hb2
  subst hwb
  go_wp2_with fail
  refine (HRp.out _).mono ?_
  rintro e w3 ⟨ao, n, c, l2, rfl, O3, hm⟩
  rw [HPe.out] at hm
  obtain ⟨rfl, hk0⟩ := hm
  have HO3 := Lib.hid O3
  have t0 : decide ((0 : Int) < (k : Int)) = true := decide_eq_true (by omega)
  obtain ⟨wp, hwp⟩ : ∃ W, w3.alloc (.cells #[.slice ao n c, .int .i64 (k : Int)] 53) = W := ⟨_, rfl⟩
  have hb3 : wp.heap[w3.heap.size]? = some (.cells #[.slice ao n c, .int .i64 (k : Int)] 53 (0, 0)) := by rw [← hwp]; exact heap_alloc_new _ _
  have op : Only (fun _ => False) w3 wp := by rw [← hwp]; exact (Only.refl _ _).alloc _
  have HBp : Hid (∀ W, Only (fun _ => False) wp W → W.cell? ⟨w3.heap.size, 1, none⟩ = some (.int .i64 (k : Int))) := fun W o => by rw [cell_block (only_block hb3 o (fun f => f))]; rfl
  have HOp : Hid (Only (fun _ => False) w wp) := HOb.out.same (O3.same op)
  have HO3p : Hid (Only (fun _ => False) _ wp) := O3.same op
  have q0 := HBp.out wp (Only.refl _ _)
  clear O3 hb3 op
  go_wp2_with fail
  refine (HFix.out _ HOp.out).mono ?_
  rintro e w4 ⟨rfl, O4⟩
  have HO4 := Lib.hid (HOp.out.same O4)
  have q1 := HBp.out w4 O4
  obtain ⟨b0, b1, b2⟩ := HBx.out w4 (HO3p.out.same O4)
  have hwq := eq_where w4 (k : Int) (k : Int)
  rw [beq_self_eq_true] at hwq
  clear O4
  go_wp2_with fail
  go_ret
  exact ⟨rfl, HO4.out⟩
 | ok G =>
  rw [hp] at hm
  obtain ⟨rfl, rfl, g, hG, hr⟩ := hm
  have HPe := Lib.hid hp
  have hgB := (Lk.parse_some hp).1
  have hgT := (Lk.parse_some hp).2
  rw [← hG] at hgB hgT
  have HGB := Lib.hid hgB
  have HGT := Lib.hid hgT
  have HG := Lib.hid hG
  obtain ⟨a1, d1', rfl, k1, k2⟩ := hr.shape
  obtain ⟨n1, hn1⟩ : ∃ n, g.length = n := ⟨_, rfl⟩
  have HR := Lib.hid hr
  rw [hn1] at k1 HR ⊢
  obtain ⟨wb, hwb⟩ : ∃ W, (w2.alloc (.cells #[.slice a1 n1 d1'] 39)).alloc (.cells #[.int .i64 0, .int .i64 0] 44) = W := ⟨_, rfl⟩
  have ob : Only (fun _ => False) w2 wb := by rw [← hwb]; exact ((Only.refl _ _).alloc _).alloc _
  have hb1 : wb.heap[w2.heap.size]? = some (.cells #[.slice a1 n1 d1'] 39 (0, 0)) := by rw [← hwb]; exact only_block (heap_alloc_new w2 _) ((Only.refl (fun _ => False) _).alloc _) (fun f => f)
  have hb2 : wb.heap[w2.heap.size + 1]? = some (.cells #[.int .i64 0, .int .i64 0] 44 (0, 0)) := by
   have h := heap_alloc_new (w2.alloc (.cells #[.slice a1 n1 d1'] 39)) (.cells #[.int .i64 0, .int .i64 0] 44)
   rw [World.size_alloc] at h
   rw [← hwb]; exact h
  have HBx : Hid (∀ W, Only (fun _ => False) wb W → W.cell? ⟨w2.heap.size, 0, none⟩ = some (.slice a1 n1 d1') ∧ W.cell? ⟨w2.heap.size + 1, 0, none⟩ = some (.int .i64 0) ∧ W.cell? ⟨w2.heap.size + 1, 1, none⟩ = some (.int .i64 0)) := fun W o => by
   have e1 := only_block hb1 o (fun f => f)
   have e2 := only_block hb2 o (fun f => f)
   exact ⟨by rw [cell_block e1]; rfl, by rw [cell_block e2]; rfl, by rw [cell_block e2]; rfl⟩
  have HOb := Lib.hid (HO2.out.same ob)
  have HR1 : Hid (∀ W, Only (fun _ => False) wb W → RowT 4 NodC W.heap.size W (.slice a1 n1 d1') g) := fun W o => (HR.out.keep NodC.keep (Kp.of0 (ob.same o))).lift NodC.lift (ob.same o).size (Nat.le_refl _)
  clear O2 hp ob hb1 hb2 hr hgB hgT hG hn1
  subst hwb
  go_wp2_with fail
  refine (HRp.out _).mono ?_
  rintro e w3 ⟨ao, n, c, l2, rfl, O3, hm⟩
  rw [HPe.out] at hm
  obtain ⟨rfl, g2, hG2, hr2⟩ := hm
  obtain rfl : g2 = g := toG_inj (hG2.trans HG.out.symm)
  have HO3 := Lib.hid O3
  have HR3 := Lib.hid hr2
  obtain ⟨wp, hwp⟩ : ∃ W, w3.alloc (.cells #[.slice ao n c, .int .i64 0] 53) = W := ⟨_, rfl⟩
  have hb3 : wp.heap[w3.heap.size]? = some (.cells #[.slice ao n c, .int .i64 0] 53 (0, 0)) := by rw [← hwp]; exact heap_alloc_new _ _
  have op : Only (fun _ => False) w3 wp := by rw [← hwp]; exact (Only.refl _ _).alloc _
  have HBp : Hid (∀ W, Only (fun _ => False) wp W → W.cell? ⟨w3.heap.size, 0, none⟩ = some (.slice ao n c) ∧ W.cell? ⟨w3.heap.size, 1, none⟩ = some (.int .i64 0)) := fun W o => by
   have e1 := only_block hb3 o (fun f => f)
   exact ⟨by rw [cell_block e1]; rfl, by rw [cell_block e1]; rfl⟩
  have HR2 : Hid (∀ W, Only (fun _ => False) wp W → RowT 4 NodC W.heap.size W (.slice ao n c) g2) := fun W o => (HR3.out.keep NodC.keep (Kp.of0 (op.same o))).lift NodC.lift (op.same o).size (Nat.le_refl _)
  have HOp : Hid (Only (fun _ => False) w wp) := HOb.out.same (O3.same op)
  have HO3p : Hid (Only (fun _ => False) _ wp) := O3.same op
  obtain ⟨q0, q0'⟩ := HBp.out wp (Only.refl _ _)
  obtain ⟨b0, b1, b2⟩ := HBx.out wp HO3p.out
  clear O3 hb3 op hr2 hG2
  subst hwp
  go_wp2_with fail
  refine (Write_x (HR1.out _ HO3p.out) (small_of HGB.out) (HM.out.only HOp.out)).mono ?_
  rintro e w4 ⟨t1, ok1, rfl, O4, hk1, ht1, -⟩
  have hok : ok1 = true := hk1.2 HGB.out
  subst hok
  have htt := ht1 rfl
  have hteq : (t1.toList == s.toList) = true := by rw [beq_iff_eq, htt, HGT.out]
  have HO4 := Lib.hid O4
  clear O4 hk1 ht1 htt q0 q0' b0 b1 b2
  go_wp2_with fail
  refine (HFix.out _ (HOp.out.same HO4.out)).mono ?_
  rintro e w5 ⟨rfl, O5⟩
  have HO5 := Lib.hid (HO4.out.same O5)
  obtain ⟨q1, q1'⟩ := HBp.out w5 HO5.out
  obtain ⟨b0, b1, b2⟩ := HBx.out w5 (HO3p.out.same HO5.out)
  have hwq := eq_where w5 0 0
  rw [beq_self_eq_true] at hwq
  clear O5
  go_wp2_with fail
  refine (RSame28_x (HR1.out _ (HO3p.out.same HO5.out)) (HR2.out _ HO5.out) true ⟨fun _ => rfl, fun _ => rfl⟩).mono ?_
  rintro e w6 ⟨rfl, O6⟩
  have HO6 := Lib.hid (HO5.out.same O6)
  clear O6
  go_wp2_with fail
  go_ret
  exact ⟨rfl, HOp.out.same HO6.out⟩
end
end Go.Proofs.YtmlfchjompfmaaaDoor

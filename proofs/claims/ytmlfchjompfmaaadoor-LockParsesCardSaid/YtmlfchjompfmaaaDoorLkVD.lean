/- LkWH LkWI LkWJ, in one text. -/
import Derived.Test.YtmlfchjompfmaaaDoorLkVC
import Derived.Test.YtmlfchjompfmaaaDoorLkW2
import Derived.Test.YtmlfchjompfmaaaDoorLkWF
import Derived.Test.YtmlfchjompfmaaaDoorLkW5
set_option linter.unusedVariables false
namespace Go.Proofs.YtmlfchjompfmaaaDoor
open Go.RowKit
open Lk (nodeB nameB valueB)
theorem nodeB_no {x : NodeD} {r : Bool} (hr : nodeB x.toB = r) (h : nodeB x.toB ≠ true) : r = false := by
 cases r with
 | false => rfl
 | true => exact absurd hr h
theorem nodeB_all {x : NodeD} : nodeB x.toB = true ↔ nameB x.name.toList = true ∧ mayB x.version.toList = true ∧ x.sets.length ≤ 4 ∧ x.needs.length ≤ 24 ∧ (∀ s ∈ x.sets, nameB s.name.toList = true ∧ valueB s.value.toList = true) ∧ (∀ s ∈ x.needs, nameB s.toList = true) ∧ Lk.risB (x.needs.map ByteArray.toList) = true := by
 simp [nodeB, NodeD.toB, SetD.toB, and_assoc]
section
variable {w w' : World} {B : Nat}
set_option maxRecDepth 100000 in
set_option maxHeartbeats 4000000 in
attribute [local irreducible] wpQuiet in
theorem Node28_x {x : NodeD} {a1 a2 : Option Addr} {c1 c2 : Nat} (kx1 : okS x.name) (kx2 : okS x.version) (s1 : RowT 2 SetC B w (.slice a1 x.sets.length c1) x.sets) (s2 : RowT 1 StrC B w (.slice a2 x.needs.length c2) x.needs) (r : Bool) (hr : nodeB x.toB = r) :
  Calls Tryd.prog 30 #[.agg #[.string x.name, .string x.version, .slice a1 x.sets.length c1, .slice a2 x.needs.length c2]] w (fun e w' => e = .returned (.bool r) ∧ Only (fun _ => False) w w') := by
 have S1 := Lib.hid s1
 have S2 := Lib.hid s2
 have HR := Lib.hid hr
 obtain ⟨z1, hz1⟩ : ∃ z, nameB x.name.toList = z := ⟨_, rfl⟩
 obtain ⟨z2, hz2⟩ : ∃ z, Go.Proofs.YtmlfchjompfmaaaDoor.mayB x.version.toList = z := ⟨_, rfl⟩
 have HZ1 := Lib.hid hz1
 have HZ2 := Lib.hid hz2
 have HNa : Hid (∀ W, Calls Tryd.prog 49 #[.string x.name] W (fun e w' => e = .returned (.bool z1) ∧ Only (fun _ => False) W w')) := fun W => RName_x x.name kx1 z1 hz1
 have HMa : Hid (∀ W, Calls Tryd.prog 10 #[.string x.version] W (fun e w' => e = .returned (.bool z2) ∧ Only (fun _ => False) W w')) := fun W => May_x x.version kx2 z2 hz2
 obtain ⟨n1, hn1⟩ : ∃ n, x.sets.length = n := ⟨_, rfl⟩
 obtain ⟨n2, hn2⟩ : ∃ n, x.needs.length = n := ⟨_, rfl⟩
 have HN1 := Lib.hid hn1
 have HN2 := Lib.hid hn2
 rw [hn1] at S1 ⊢
 rw [hn2] at S2 ⊢
 obtain ⟨w0, hw0⟩ : ∃ W, w.alloc (.cells #[.string x.name, .string x.version, .slice a1 n1 c1, .slice a2 n2 c2] 80) = W := ⟨_, rfl⟩
 have hb0 : w0.heap[w.heap.size]? = some (.cells #[.string x.name, .string x.version, .slice a1 n1 c1, .slice a2 n2 c2] 80 (0, 0)) := by rw [← hw0]; exact heap_alloc_new _ _
 have HO0 : Hid (Only (fun _ => False) w w0) := by rw [← hw0]; exact (Only.refl _ _).alloc _
 have HBox : Hid (∀ W, Only (fun _ => False) w0 W → W.cell? ⟨w.heap.size, 0, none⟩ = some (.string x.name) ∧ W.cell? ⟨w.heap.size, 1, none⟩ = some (.string x.version) ∧ W.cell? ⟨w.heap.size, 2, none⟩ = some (.slice a1 n1 c1) ∧ W.cell? ⟨w.heap.size, 3, none⟩ = some (.slice a2 n2 c2)) := fun W o => by
  have e1 := only_block hb0 o (fun f => f)
  exact ⟨by rw [cell_block e1]; rfl, by rw [cell_block e1]; rfl, by rw [cell_block e1]; rfl, by rw [cell_block e1]; rfl⟩
 obtain ⟨b0, b1, b2, b3⟩ := HBox.out w0 (Only.refl _ _)
 clear s1 s2 hr hz1 hz2 kx1 kx2 hn1 hn2 hb0
 go_enter Tryd.func30, Tryd.ntmps30
 go_wp2_with fail
 refine (HNa.out w0).mono ?_
 rintro e w1 ⟨rfl, O1⟩
 have HO1 := Lib.hid O1
 obtain ⟨p0, p1, p2, p3⟩ := HBox.out w1 O1
 clear O1
 cases z1 with
 | false =>
  obtain rfl := nodeB_no HR.out (by simp [nodeB, NodeD.toB, HZ1.out])
  go_wp2_with fail
  go_ret
  exact ⟨rfl, HO0.out.same HO1.out⟩
 | true =>
  go_wp2_with fail
  refine (HMa.out w1).mono ?_
  rintro e w2 ⟨rfl, O2⟩
  have HO2 := Lib.hid (HO1.out.same O2)
  obtain ⟨q0, q1, q2, q3⟩ := HBox.out w2 HO2.out
  clear O2
  cases z2 with
  | false =>
   obtain rfl := nodeB_no HR.out (by simp [nodeB, NodeD.toB, HZ2.out])
   go_wp2_with fail
   go_ret
   exact ⟨rfl, HO0.out.same HO2.out⟩
  | true =>
   by_cases d1 : 4 < n1
   ·obtain rfl := nodeB_no HR.out (by simp [nodeB, NodeD.toB, HN1.out]; omega)
    go_wp2_with fail
    go_ret
    exact ⟨rfl, HO0.out.same HO2.out⟩
   ·by_cases d2 : 24 < n2
    ·obtain rfl := nodeB_no HR.out (by simp [nodeB, NodeD.toB, HN2.out]; omega)
     have t1 : decide (4 < n1) = false := decide_eq_false d1
     have t2 : decide (4 < (n1 : Int)) = false := decide_eq_false (by omega)
     go_wp2_with fail
     go_ret
     exact ⟨rfl, HO0.out.same HO2.out⟩
    ·have t1 : decide (4 < n1) = false := decide_eq_false d1
     have t2 : decide (4 < (n1 : Int)) = false := decide_eq_false (by omega)
     have t3 : decide (24 < n2) = false := decide_eq_false d2
     have t4 : decide (24 < (n2 : Int)) = false := decide_eq_false (by omega)
     go_wp2_with fail
     go_loopw [3, 30] (fun _ vi wr => Hid (Only (fun _ => False) w0 wr) ∧ ∃ i : Nat, vi = .int .i64 i ∧ i ≤ n1 ∧ Hid (∀ s ∈ x.sets.take i, nameB s.name.toList = true ∧ valueB s.value.toList = true)) (fun _ v _ => n1 - (RowKit.intOf v).toNat)
     case atStart => exact ⟨HO2.out, 0, rfl, Nat.zero_le _, fun s hs => by simp at hs⟩
     case round =>
      obtain ⟨HO, i, rfl, hi, HA⟩ := hrel
      by_cases ci : i < n1
      ·have ewi : IntKind.i64.wrap ((i : Int) + 1) = (i : Int) + 1 := by rw [IntKind.wrap_i64]; omega
       obtain ⟨y, hy⟩ : ∃ y, x.sets[i]? = some y := ⟨_, List.getElem?_eq_getElem (by rw [HN1.out]; exact ci)⟩
       obtain ⟨b, off, he1, ky1, ky2, hE1⟩ := SetC_at (S1.out.keep SetC.keep (Kp.of0 (HO0.out.same HO.out))) hy
       subst he1
       obtain ⟨u1, hu1⟩ : ∃ z, nameB y.name.toList = z := ⟨_, rfl⟩
       obtain ⟨u2, hu2⟩ : ∃ z, valueB y.value.toList = z := ⟨_, rfl⟩
       have HU1 := Lib.hid hu1
       have HU2 := Lib.hid hu2
       have HNy : Hid (∀ W, Calls Tryd.prog 49 #[.string y.name] W (fun e w' => e = .returned (.bool u1) ∧ Only (fun _ => False) W w')) := fun W => RName_x y.name ky1 u1 hu1
       have HVy : Hid (∀ W, Calls Tryd.prog 50 #[.string y.value] W (fun e w' => e = .returned (.bool u2) ∧ Only (fun _ => False) W w')) := fun W => RValue_x y.value ky2 u2 hu2
       have HY := Lib.hid hy
       have HE := Lib.hid hE1
       have g0 := (hE1 wr (Only.refl _ _)).1 0 _ rfl
       rw [Nat.add_zero] at g0
       obtain ⟨m0, m1, m2, m3⟩ := HBox.out wr HO.out
       clear hy hE1 hu1 hu2 ky1 ky2
       go_wp2_with fail
       refine (HNy.out wr).mono ?_
       rintro e w3 ⟨rfl, O3⟩
       have HO3 := Lib.hid (HO.out.same O3)
       obtain ⟨l0, l1, l2, l3⟩ := HBox.out w3 HO3.out
       have g1 := (HE.out w3 O3).1 1 _ rfl
       clear O3
       cases u1 with
       | false =>
        obtain rfl := nodeB_no HR.out (fun h => by have h2 := ((nodeB_all.1 h).2.2.2.2.1 y (List.mem_of_getElem? HY.out)).1; rw [HU1.out] at h2; cases h2)
        go_wp2_with fail
        go_ret
        exact ⟨rfl, HO0.out.same HO3.out⟩
       | true =>
        go_wp2_with fail
        refine (HVy.out w3).mono ?_
        rintro e w4 ⟨rfl, O4⟩
        have HO4 := Lib.hid (HO3.out.same O4)
        clear O4
        cases u2 with
        | false =>
         obtain rfl := nodeB_no HR.out (fun h => by have h2 := ((nodeB_all.1 h).2.2.2.2.1 y (List.mem_of_getElem? HY.out)).2; rw [HU2.out] at h2; cases h2)
         go_wp2_with fail
         go_ret
         exact ⟨rfl, HO0.out.same HO4.out⟩
        | true =>
         have HA2 := Lib.hid (all_snoc HA.out HY.out ⟨HU1.out, HU2.out⟩)
         go_wp2_with fail
         go_roundw
         case rel => exact ⟨HO4, i + 1, by first | rfl | go_num, by omega, HA2⟩
         case measure => simp [RowKit.intOf] <;> omega
      ·obtain rfl : i = n1 := by omega
       have HAll : Hid (∀ s ∈ x.sets, nameB s.name.toList = true ∧ valueB s.value.toList = true) := by have h := HA.out; rw [List.take_of_length_le (Nat.le_of_eq HN1.out)] at h; exact h
       clear HA
       obtain ⟨m0, m1, m2, m3⟩ := HBox.out wr HO.out
       go_wp2_with fail
       go_loopw [4, 55] (fun _ vi wr => Hid (Only (fun _ => False) w0 wr) ∧ ∃ j : Nat, vi = .int .i64 j ∧ j ≤ n2 ∧ Hid ((∀ s ∈ x.needs.take j, nameB s.toList = true) ∧ Lk.risB ((x.needs.take j).map ByteArray.toList) = true)) (fun _ v _ => n2 - (RowKit.intOf v).toNat)
       case atStart => exact ⟨HO.out, 0, rfl, Nat.zero_le _, (fun s hs => by simp at hs), rfl⟩
       case round =>
        clear m0 m1 m2 m3 HO
        obtain ⟨HO, j, rfl, hj, HB⟩ := hrel
        by_cases cj : j < n2
        ·have ewj : IntKind.i64.wrap ((j : Int) + 1) = (j : Int) + 1 := by rw [IntKind.wrap_i64]; omega
         obtain ⟨y, hy⟩ : ∃ y, x.needs[j]? = some y := ⟨_, List.getElem?_eq_getElem (by rw [HN2.out]; exact cj)⟩
         obtain ⟨b, off, he1, ky, hE1⟩ := StrC_at (S2.out.keep StrC.keep (Kp.of0 (HO0.out.same HO.out))) hy
         subst he1
         obtain ⟨u, hu⟩ : ∃ z, nameB y.toList = z := ⟨_, rfl⟩
         have HU := Lib.hid hu
         have HNy : Hid (∀ W, Calls Tryd.prog 49 #[.string y] W (fun e w' => e = .returned (.bool u) ∧ Only (fun _ => False) W w')) := fun W => RName_x y ky u hu
         have HY := Lib.hid hy
         have HQ : Hid (∀ W, Only (fun _ => False) wr W → W.cell? ⟨w.heap.size, 3, none⟩ = some (.slice (some ⟨b, off, none⟩) n2 c2) ∧ W.cell? ⟨b, off + j, none⟩ = some (.string y)) := fun W o => by
          have h := (hE1 W o).1 0 _ rfl
          rw [Nat.add_zero, Nat.mul_one] at h
          exact ⟨(HBox.out W (HO.out.same o)).2.2.2, h⟩
         have HLast : Hid (∀ hl : Lk.lastB ((x.needs.take j).map ByteArray.toList) y.toList = true, u = true → Hid ((∀ s ∈ x.needs.take (j + 1), nameB s.toList = true) ∧ Lk.risB ((x.needs.take (j + 1)).map ByteArray.toList) = true)) := fun hl hu1 => by
          refine ⟨all_snoc HB.out.1 HY.out (by rw [HU.out, hu1]), ?_⟩
          rw [List.take_add_one, HY.out]
          simp only [Option.toList_some, List.map_append, List.map_cons, List.map_nil]
          rw [Lk.ris_snoc, HB.out.2, hl]; rfl
         clear hy hE1 hu ky
         cases u with
         | false =>
          obtain rfl := nodeB_no HR.out (fun h => by have h2 := (nodeB_all.1 h).2.2.2.2.2.1 y (List.mem_of_getElem? HY.out); rw [HU.out] at h2; cases h2)
          go_wp2_with fail
          refine wp_region_Q (fun w' => Only (fun _ => False) wr w') (by kernel_rfl) (by kernel_rfl) (by exact (Only.refl _ _).drew) ?_
          refine wpQ_val (v := ?_) (by rfl) ?_ ?_
          rotate_left
          ·(intro w hSw; (try dsimp only at hSw); have q3 := (HQ.out w hSw).1; have q4 := (HQ.out w hSw).2; go_simp <;> (try with_reducible rfl))
          try simp only [Act.put, zq4, zq5, zq6]
          refine wpQ_val (v := ?_) (by rfl) ?_ ?_
          rotate_left
          ·(intro w hSw; (try dsimp only at hSw); have q3 := (HQ.out w hSw).1; have q4 := (HQ.out w hSw).2; go_simp <;> (try with_reducible rfl))
          try simp only [Act.put, zq4, zq5, zq6]
          refine wpQ_val (v := ?_) (by rfl) ?_ ?_
          rotate_left
          ·(intro w hSw; (try dsimp only at hSw); have q3 := (HQ.out w hSw).1; have q4 := (HQ.out w hSw).2; go_simp <;> (try with_reducible rfl))
          try simp only [Act.put, zq4, zq5, zq6]
          refine wpQ_val (v := ?_) (by rfl) ?_ ?_
          rotate_left
          ·(intro w hSw; (try dsimp only at hSw); have q3 := (HQ.out w hSw).1; have q4 := (HQ.out w hSw).2; go_simp <;> (try with_reducible rfl))
          try simp only [Act.put, zq4, zq5, zq6]
          refine wpQ_val (v := ?_) (by rfl) ?_ ?_
          rotate_left
          ·(intro w hSw; (try dsimp only at hSw); have q3 := (HQ.out w hSw).1; have q4 := (HQ.out w hSw).2; go_simp <;> (try with_reducible rfl))
          try simp only [Act.put, zq4, zq5, zq6]
          refine wpQ_call (v := .bool false) (f := 49) (args := #[.string y]) (by rfl) ?_ ?_ ?_
          ·(intro w; go_simp <;> (try with_reducible rfl))
          ·(intro w hSw; exact (HNy.out w).mono fun _ _ ⟨he, hw⟩ => ⟨he, hSw.same hw⟩)
          try simp only [Act.put, zq4, zq5, zq6]
          refine wpQ_val (v := ?_) (by rfl) ?_ ?_
          rotate_left
          ·(intro w hSw; (try dsimp only at hSw); have q3 := (HQ.out w hSw).1; have q4 := (HQ.out w hSw).2; go_simp <;> (try with_reducible rfl))
          try simp only [Act.put, zq4, zq5, zq6]
          refine wpQ_val (v := ?_) (by rfl) ?_ ?_
          rotate_left
          ·(intro w hSw; (try dsimp only at hSw); have q3 := (HQ.out w hSw).1; have q4 := (HQ.out w hSw).2; go_simp <;> (try with_reducible rfl))
          try simp only [Act.put, zq4, zq5, zq6]
          refine wpQ_skip (by kernel_rfl) ?_
          try simp only [Act.put, zq4, zq5, zq6]
          refine wpQ_skip (by kernel_rfl) ?_
          try simp only [Act.put, zq4, zq5, zq6]
          refine wpQ_skip (by kernel_rfl) ?_
          try simp only [Act.put, zq4, zq5, zq6]
          refine wpQ_skip (by kernel_rfl) ?_
          try simp only [Act.put, zq4, zq5, zq6]
          refine wpQ_skip (by kernel_rfl) ?_
          try simp only [Act.put, zq4, zq5, zq6]
          refine wpQ_skip (by kernel_rfl) ?_
          try simp only [Act.put, zq4, zq5, zq6]
          refine wpQ_skip (by kernel_rfl) ?_
          try simp only [Act.put, zq4, zq5, zq6]
          refine wpQ_skip (by kernel_rfl) ?_
          try simp only [Act.put, zq4, zq5, zq6]
          refine wpQ_skip (by kernel_rfl) ?_
          try simp only [Act.put, zq4, zq5, zq6]
          refine wpQ_skip (by kernel_rfl) ?_
          try simp only [Act.put, zq4, zq5, zq6]
          refine wpQ_skip (by kernel_rfl) ?_
          try simp only [Act.put, zq4, zq5, zq6]
          refine wpQ_skip (by kernel_rfl) ?_
          try simp only [Act.put, zq4, zq5, zq6]
          refine wpQ_skip (by kernel_rfl) ?_
          try simp only [Act.put, zq4, zq5, zq6]
          refine wpQ_skip (by kernel_rfl) ?_
          try simp only [Act.put, zq4, zq5, zq6]
          refine wpQ_skip (by kernel_rfl) ?_
          try simp only [Act.put, zq4, zq5, zq6]
          refine wpQ_skip (by kernel_rfl) ?_
          try simp only [Act.put, zq4, zq5, zq6]
          refine wpQ_val (v := ?_) (by rfl) ?_ ?_
          rotate_left
          ·(intro w hSw; (try dsimp only at hSw); have q3 := (HQ.out w hSw).1; have q4 := (HQ.out w hSw).2; go_simp <;> (try with_reducible rfl))
          try simp only [Act.put, zq4, zq5, zq6]
          refine wpQuiet_nil ?_
          intro w7 O7
          have HO7 := Lib.hid (HO.out.same O7)
          clear O7
          go_wp2_with fail
          go_ret
          exact ⟨rfl, HO0.out.same HO7.out⟩
         | true =>
          rcases j with _ | j'
          ·have HB2 := HLast.out rfl rfl
           have HQz : Hid (∀ W, Only (fun _ => False) wr W → W.cell? ⟨w.heap.size, 3, none⟩ = some (.slice (some ⟨b, off, none⟩) n2 c2) ∧ W.cell? ⟨b, off, none⟩ = some (.string y)) := HQ
           go_wp2_with fail
           refine wp_region_Q (fun w' => Only (fun _ => False) wr w') (by kernel_rfl) (by kernel_rfl) (by exact (Only.refl _ _).drew) ?_
           refine wpQ_val (v := ?_) (by rfl) ?_ ?_
           rotate_left
           ·(intro w hSw; (try dsimp only at hSw); have q3 := (HQz.out w hSw).1; have q4 := (HQz.out w hSw).2; go_simp <;> (try with_reducible rfl))
           try simp only [Act.put, zq4, zq5, zq6]
           refine wpQ_val (v := ?_) (by rfl) ?_ ?_
           rotate_left
           ·(intro w hSw; (try dsimp only at hSw); have q3 := (HQz.out w hSw).1; have q4 := (HQz.out w hSw).2; go_simp <;> (try with_reducible rfl))
           try simp only [Act.put, zq4, zq5, zq6]
           refine wpQ_val (v := ?_) (by rfl) ?_ ?_
           rotate_left
           ·(intro w hSw; (try dsimp only at hSw); have q3 := (HQz.out w hSw).1; have q4 := (HQz.out w hSw).2; go_simp <;> (try with_reducible rfl))
           try simp only [Act.put, zq4, zq5, zq6]
           refine wpQ_val (v := ?_) (by rfl) ?_ ?_
           rotate_left
           ·(intro w hSw; (try dsimp only at hSw); have q3 := (HQz.out w hSw).1; have q4 := (HQz.out w hSw).2; go_simp <;> (try with_reducible rfl))
           try simp only [Act.put, zq4, zq5, zq6]
           refine wpQ_val (v := ?_) (by rfl) ?_ ?_
           rotate_left
           ·(intro w hSw; (try dsimp only at hSw); have q3 := (HQz.out w hSw).1; have q4 := (HQz.out w hSw).2; go_simp <;> (try with_reducible rfl))
           try simp only [Act.put, zq4, zq5, zq6]
           refine wpQ_call (v := .bool true) (f := 49) (args := #[.string y]) (by rfl) ?_ ?_ ?_
           ·(intro w; go_simp <;> (try with_reducible rfl))
           ·(intro w hSw; exact (HNy.out w).mono fun _ _ ⟨he, hw⟩ => ⟨he, hSw.same hw⟩)
           try simp only [Act.put, zq4, zq5, zq6]
           refine wpQ_val (v := ?_) (by rfl) ?_ ?_
           rotate_left
           ·(intro w hSw; (try dsimp only at hSw); have q3 := (HQz.out w hSw).1; have q4 := (HQz.out w hSw).2; go_simp <;> (try with_reducible rfl))
           try simp only [Act.put, zq4, zq5, zq6]
           refine wpQ_val (v := ?_) (by rfl) ?_ ?_
           rotate_left
           ·(intro w hSw; (try dsimp only at hSw); have q3 := (HQz.out w hSw).1; have q4 := (HQz.out w hSw).2; go_simp <;> (try with_reducible rfl))
           try simp only [Act.put, zq4, zq5, zq6]
           refine wpQ_val (v := ?_) (by rfl) ?_ ?_
           rotate_left
           ·(intro w hSw; (try dsimp only at hSw); have q3 := (HQz.out w hSw).1; have q4 := (HQz.out w hSw).2; go_simp <;> (try with_reducible rfl))
           try simp only [Act.put, zq4, zq5, zq6]
           refine wpQ_val (v := ?_) (by rfl) ?_ ?_
           rotate_left
           ·(intro w hSw; (try dsimp only at hSw); have q3 := (HQz.out w hSw).1; have q4 := (HQz.out w hSw).2; go_simp <;> (try with_reducible rfl))
           try simp only [Act.put, zq4, zq5, zq6]
           refine wpQ_val (v := ?_) (by rfl) ?_ ?_
           rotate_left
           ·(intro w hSw; (try dsimp only at hSw); have q3 := (HQz.out w hSw).1; have q4 := (HQz.out w hSw).2; go_simp <;> (try with_reducible rfl))
           try simp only [Act.put, zq4, zq5, zq6]
           refine wpQ_skip (by kernel_rfl) ?_
           try simp only [Act.put, zq4, zq5, zq6]
           refine wpQ_skip (by kernel_rfl) ?_
           try simp only [Act.put, zq4, zq5, zq6]
           refine wpQ_skip (by kernel_rfl) ?_
           try simp only [Act.put, zq4, zq5, zq6]
           refine wpQ_skip (by kernel_rfl) ?_
           try simp only [Act.put, zq4, zq5, zq6]
           refine wpQ_skip (by kernel_rfl) ?_
           try simp only [Act.put, zq4, zq5, zq6]
           refine wpQ_skip (by kernel_rfl) ?_
           try simp only [Act.put, zq4, zq5, zq6]
           refine wpQ_skip (by kernel_rfl) ?_
           try simp only [Act.put, zq4, zq5, zq6]
           refine wpQ_skip (by kernel_rfl) ?_
           try simp only [Act.put, zq4, zq5, zq6]
           refine wpQ_skip (by kernel_rfl) ?_
           try simp only [Act.put, zq4, zq5, zq6]
           refine wpQ_skip (by kernel_rfl) ?_
           try simp only [Act.put, zq4, zq5, zq6]
           refine wpQ_skip (by kernel_rfl) ?_
           try simp only [Act.put, zq4, zq5, zq6]
           refine wpQ_skip (by kernel_rfl) ?_
           try simp only [Act.put, zq4, zq5, zq6]
           refine wpQ_val (v := ?_) (by rfl) ?_ ?_
           rotate_left
           ·(intro w hSw; (try dsimp only at hSw); have q3 := (HQz.out w hSw).1; have q4 := (HQz.out w hSw).2; go_simp <;> (try with_reducible rfl))
           try simp only [Act.put, zq4, zq5, zq6]
           refine wpQ_val (v := ?_) (by rfl) ?_ ?_
           rotate_left
           ·(intro w hSw; (try dsimp only at hSw); have q3 := (HQz.out w hSw).1; have q4 := (HQz.out w hSw).2; go_simp <;> (try with_reducible rfl))
           try simp only [Act.put, zq4, zq5, zq6]
           refine wpQuiet_nil ?_
           intro w7 O7
           have HO7 := Lib.hid (HO.out.same O7)
           clear O7
           go_wp2_with fail
           go_roundw
           case rel => exact ⟨HO7, 0 + 1, by first | rfl | go_num, by omega, HB2⟩
           case measure => simp [RowKit.intOf] <;> omega
          ·obtain ⟨y', hy'⟩ : ∃ y', x.needs[j']? = some y' := ⟨_, List.getElem?_eq_getElem (by rw [HN2.out]; omega)⟩
           have hlast : Lk.lastB ((x.needs.take (j' + 1)).map ByteArray.toList) y.toList = decide (y'.toList < y.toList) := by
            unfold Lk.lastB
            rw [List.take_add_one, hy']
            simp only [Option.toList_some, List.map_append, List.map_cons, List.map_nil, List.getLast?_concat]
           obtain ⟨b', off', he2, -, hE2⟩ := StrC_at (S2.out.keep StrC.keep (Kp.of0 (HO0.out.same HO.out))) hy'
           cases he2
           have HQ2 : Hid (∀ W, Only (fun _ => False) wr W → W.cell? ⟨b, off + j', none⟩ = some (.string y')) := fun W o => by
            have h := (hE2 W o).1 0 _ rfl
            rw [Nat.add_zero, Nat.mul_one] at h
            exact h
           have HY' := Lib.hid hy'
           have ewk : IntKind.i64.wrap ((j' : Int) + 1 - 1) = (j' : Int) := by rw [IntKind.wrap_i64]; omega
           have ewk2 : IntKind.i64.wrap (j' : Int) = (j' : Int) := by rw [IntKind.wrap_i64]; omega
           have hk0 : (0 : Int) < (j' : Int) + 1 := by omega
           have hk1 : (0 : Int) ≤ (j' : Int) + 1 := by omega
           have hkk : j' < n2 := by omega
           have hkk2 : (j' : Int) + 1 < (n2 : Int) := by omega
           have HLastB := Lib.hid hlast
           clear hlast hy' hE2
           cases hlt : decide (y'.toList < y.toList) with
           | false =>
            obtain rfl := nodeB_no HR.out (fun h => by
             have h2 := (nodeB_all.1 h).2.2.2.2.2.2
             have h3 : x.needs = x.needs.take (j' + 2) ++ x.needs.drop (j' + 2) := (List.take_append_drop _ _).symm
             rw [h3, List.map_append] at h2
             have h4 := Lk.ris_take h2
             rw [List.take_add_one, HY.out] at h4
             simp only [Option.toList_some, List.map_append, List.map_cons, List.map_nil] at h4
             rw [Lk.ris_snoc, HLastB.out, hlt] at h4
             simp at h4)
            have hbl : Op.bytesLess y'.toList y.toList = false := by rw [bytesLess_x, hlt]
            clear hlt HLast
            go_wp2_with fail
            refine wp_region_Q (fun w' => Only (fun _ => False) wr w') (by kernel_rfl) (by kernel_rfl) (by exact (Only.refl _ _).drew) ?_
            refine wpQ_val (v := ?_) (by rfl) ?_ ?_
            rotate_left
            ·(intro w hSw; (try dsimp only at hSw); have q3 := (HQ.out w hSw).1; have q4 := (HQ.out w hSw).2; have q5 := (HQ2.out w hSw); go_simp <;> (try with_reducible rfl))
            try simp only [Act.put, zq4, zq5, zq6]
            refine wpQ_val (v := ?_) (by rfl) ?_ ?_
            rotate_left
            ·(intro w hSw; (try dsimp only at hSw); have q3 := (HQ.out w hSw).1; have q4 := (HQ.out w hSw).2; have q5 := (HQ2.out w hSw); go_simp <;> (try with_reducible rfl))
            try simp only [Act.put, zq4, zq5, zq6]
            refine wpQ_val (v := ?_) (by rfl) ?_ ?_
            rotate_left
            ·(intro w hSw; (try dsimp only at hSw); have q3 := (HQ.out w hSw).1; have q4 := (HQ.out w hSw).2; have q5 := (HQ2.out w hSw); go_simp <;> (try with_reducible rfl))
            try simp only [Act.put, zq4, zq5, zq6]
            refine wpQ_val (v := ?_) (by rfl) ?_ ?_
            rotate_left
            ·(intro w hSw; (try dsimp only at hSw); have q3 := (HQ.out w hSw).1; have q4 := (HQ.out w hSw).2; have q5 := (HQ2.out w hSw); go_simp <;> (try with_reducible rfl))
            try simp only [Act.put, zq4, zq5, zq6]
            refine wpQ_val (v := ?_) (by rfl) ?_ ?_
            rotate_left
            ·(intro w hSw; (try dsimp only at hSw); have q3 := (HQ.out w hSw).1; have q4 := (HQ.out w hSw).2; have q5 := (HQ2.out w hSw); go_simp <;> (try with_reducible rfl))
            try simp only [Act.put, zq4, zq5, zq6]
            refine wpQ_call (v := .bool true) (f := 49) (args := #[.string y]) (by rfl) ?_ ?_ ?_
            ·(intro w; go_simp <;> (try with_reducible rfl))
            ·(intro w hSw; exact (HNy.out w).mono fun _ _ ⟨he, hw⟩ => ⟨he, hSw.same hw⟩)
            try simp only [Act.put, zq4, zq5, zq6]
            refine wpQ_val (v := ?_) (by rfl) ?_ ?_
            rotate_left
            ·(intro w hSw; (try dsimp only at hSw); have q3 := (HQ.out w hSw).1; have q4 := (HQ.out w hSw).2; have q5 := (HQ2.out w hSw); go_simp <;> (try with_reducible rfl))
            try simp only [Act.put, zq4, zq5, zq6]
            refine wpQ_val (v := ?_) (by rfl) ?_ ?_
            rotate_left
            ·(intro w hSw; (try dsimp only at hSw); have q3 := (HQ.out w hSw).1; have q4 := (HQ.out w hSw).2; have q5 := (HQ2.out w hSw); go_simp <;> (try with_reducible rfl))
            try simp only [Act.put, zq4, zq5, zq6]
            refine wpQ_val (v := ?_) (by rfl) ?_ ?_
            rotate_left
            ·(intro w hSw; (try dsimp only at hSw); have q3 := (HQ.out w hSw).1; have q4 := (HQ.out w hSw).2; have q5 := (HQ2.out w hSw); go_simp <;> (try with_reducible rfl))
            try simp only [Act.put, zq4, zq5, zq6]
            refine wpQ_val (v := ?_) (by rfl) ?_ ?_
            rotate_left
            ·(intro w hSw; (try dsimp only at hSw); have q3 := (HQ.out w hSw).1; have q4 := (HQ.out w hSw).2; have q5 := (HQ2.out w hSw); go_simp <;> (try with_reducible rfl))
            try simp only [Act.put, zq4, zq5, zq6]
            refine wpQ_val (v := ?_) (by rfl) ?_ ?_
            rotate_left
            ·(intro w hSw; (try dsimp only at hSw); have q3 := (HQ.out w hSw).1; have q4 := (HQ.out w hSw).2; have q5 := (HQ2.out w hSw); go_simp <;> (try with_reducible rfl))
            try simp only [Act.put, zq4, zq5, zq6]
            refine wpQ_val (v := ?_) (by rfl) ?_ ?_
            rotate_left
            ·(intro w hSw; (try dsimp only at hSw); have q3 := (HQ.out w hSw).1; have q4 := (HQ.out w hSw).2; have q5 := (HQ2.out w hSw); go_simp <;> (try with_reducible rfl))
            try simp only [Act.put, zq4, zq5, zq6]
            refine wpQ_val (v := ?_) (by rfl) ?_ ?_
            rotate_left
            ·(intro w hSw; (try dsimp only at hSw); have q3 := (HQ.out w hSw).1; have q4 := (HQ.out w hSw).2; have q5 := (HQ2.out w hSw); go_simp <;> (try with_reducible rfl))
            try simp only [Act.put, zq4, zq5, zq6]
            refine wpQ_val (v := ?_) (by rfl) ?_ ?_
            rotate_left
            ·(intro w hSw; (try dsimp only at hSw); have q3 := (HQ.out w hSw).1; have q4 := (HQ.out w hSw).2; have q5 := (HQ2.out w hSw); go_simp <;> (try with_reducible rfl))
            try simp only [Act.put, zq4, zq5, zq6]
            refine wpQ_val (v := ?_) (by rfl) ?_ ?_
            rotate_left
            ·(intro w hSw; (try dsimp only at hSw); have q3 := (HQ.out w hSw).1; have q4 := (HQ.out w hSw).2; have q5 := (HQ2.out w hSw); go_simp <;> (try with_reducible rfl))
            try simp only [Act.put, zq4, zq5, zq6]
            refine wpQ_val (v := ?_) (by rfl) ?_ ?_
            rotate_left
            ·(intro w hSw; (try dsimp only at hSw); have q3 := (HQ.out w hSw).1; have q4 := (HQ.out w hSw).2; have q5 := (HQ2.out w hSw); go_simp <;> (try with_reducible rfl))
            try simp only [Act.put, zq4, zq5, zq6]
            refine wpQ_val (v := ?_) (by rfl) ?_ ?_
            rotate_left
            ·(intro w hSw; (try dsimp only at hSw); have q3 := (HQ.out w hSw).1; have q4 := (HQ.out w hSw).2; have q5 := (HQ2.out w hSw); go_simp <;> (try with_reducible rfl))
            try simp only [Act.put, zq4, zq5, zq6]
            refine wpQ_val (v := ?_) (by rfl) ?_ ?_
            rotate_left
            ·(intro w hSw; (try dsimp only at hSw); have q3 := (HQ.out w hSw).1; have q4 := (HQ.out w hSw).2; have q5 := (HQ2.out w hSw); go_simp <;> (try with_reducible rfl))
            try simp only [Act.put, zq4, zq5, zq6]
            refine wpQ_val (v := ?_) (by rfl) ?_ ?_
            rotate_left
            ·(intro w hSw; (try dsimp only at hSw); have q3 := (HQ.out w hSw).1; have q4 := (HQ.out w hSw).2; have q5 := (HQ2.out w hSw); go_simp <;> (try with_reducible rfl))
            try simp only [Act.put, zq4, zq5, zq6]
            refine wpQ_val (v := ?_) (by rfl) ?_ ?_
            rotate_left
            ·(intro w hSw; (try dsimp only at hSw); have q3 := (HQ.out w hSw).1; have q4 := (HQ.out w hSw).2; have q5 := (HQ2.out w hSw); go_simp <;> (try with_reducible rfl))
            try simp only [Act.put, zq4, zq5, zq6]
            refine wpQ_val (v := ?_) (by rfl) ?_ ?_
            rotate_left
            ·(intro w hSw; (try dsimp only at hSw); have q3 := (HQ.out w hSw).1; have q4 := (HQ.out w hSw).2; have q5 := (HQ2.out w hSw); go_simp <;> (try with_reducible rfl))
            try simp only [Act.put, zq4, zq5, zq6]
            refine wpQ_val (v := ?_) (by rfl) ?_ ?_
            rotate_left
            ·(intro w hSw; (try dsimp only at hSw); have q3 := (HQ.out w hSw).1; have q4 := (HQ.out w hSw).2; have q5 := (HQ2.out w hSw); go_simp <;> (try with_reducible rfl))
            try simp only [Act.put, zq4, zq5, zq6]
            refine wpQ_val (v := ?_) (by rfl) ?_ ?_
            rotate_left
            ·(intro w hSw; (try dsimp only at hSw); have q3 := (HQ.out w hSw).1; have q4 := (HQ.out w hSw).2; have q5 := (HQ2.out w hSw); go_simp <;> (try with_reducible rfl))
            try simp only [Act.put, zq4, zq5, zq6]
            refine wpQ_val (v := ?_) (by rfl) ?_ ?_
            rotate_left
            ·(intro w hSw; (try dsimp only at hSw); have q3 := (HQ.out w hSw).1; have q4 := (HQ.out w hSw).2; have q5 := (HQ2.out w hSw); go_simp <;> (try with_reducible rfl))
            try simp only [Act.put, zq4, zq5, zq6]
            refine wpQ_val (v := ?_) (by rfl) ?_ ?_
            rotate_left
            ·(intro w hSw; (try dsimp only at hSw); have q3 := (HQ.out w hSw).1; have q4 := (HQ.out w hSw).2; have q5 := (HQ2.out w hSw); go_simp <;> (try with_reducible rfl))
            try simp only [Act.put, zq4, zq5, zq6]
            refine wpQuiet_nil ?_
            intro w7 O7
            have HO7 := Lib.hid (HO.out.same O7)
            clear O7
            go_wp2_with fail
            go_ret
            exact ⟨rfl, HO0.out.same HO7.out⟩
           | true =>
            have HB2 := HLast.out (by rw [HLastB.out, hlt]) rfl
            have hbl : Op.bytesLess y'.toList y.toList = true := by rw [bytesLess_x, hlt]
            clear hlt HLast
            go_wp2_with fail
            refine wp_region_Q (fun w' => Only (fun _ => False) wr w') (by kernel_rfl) (by kernel_rfl) (by exact (Only.refl _ _).drew) ?_
            refine wpQ_val (v := ?_) (by rfl) ?_ ?_
            rotate_left
            ·(intro w hSw; (try dsimp only at hSw); have q3 := (HQ.out w hSw).1; have q4 := (HQ.out w hSw).2; have q5 := (HQ2.out w hSw); go_simp <;> (try with_reducible rfl))
            try simp only [Act.put, zq4, zq5, zq6]
            refine wpQ_val (v := ?_) (by rfl) ?_ ?_
            rotate_left
            ·(intro w hSw; (try dsimp only at hSw); have q3 := (HQ.out w hSw).1; have q4 := (HQ.out w hSw).2; have q5 := (HQ2.out w hSw); go_simp <;> (try with_reducible rfl))
            try simp only [Act.put, zq4, zq5, zq6]
            refine wpQ_val (v := ?_) (by rfl) ?_ ?_
            rotate_left
            ·(intro w hSw; (try dsimp only at hSw); have q3 := (HQ.out w hSw).1; have q4 := (HQ.out w hSw).2; have q5 := (HQ2.out w hSw); go_simp <;> (try with_reducible rfl))
            try simp only [Act.put, zq4, zq5, zq6]
            refine wpQ_val (v := ?_) (by rfl) ?_ ?_
            rotate_left
            ·(intro w hSw; (try dsimp only at hSw); have q3 := (HQ.out w hSw).1; have q4 := (HQ.out w hSw).2; have q5 := (HQ2.out w hSw); go_simp <;> (try with_reducible rfl))
            try simp only [Act.put, zq4, zq5, zq6]
            refine wpQ_val (v := ?_) (by rfl) ?_ ?_
            rotate_left
            ·(intro w hSw; (try dsimp only at hSw); have q3 := (HQ.out w hSw).1; have q4 := (HQ.out w hSw).2; have q5 := (HQ2.out w hSw); go_simp <;> (try with_reducible rfl))
            try simp only [Act.put, zq4, zq5, zq6]
            refine wpQ_call (v := .bool true) (f := 49) (args := #[.string y]) (by rfl) ?_ ?_ ?_
            ·(intro w; go_simp <;> (try with_reducible rfl))
            ·(intro w hSw; exact (HNy.out w).mono fun _ _ ⟨he, hw⟩ => ⟨he, hSw.same hw⟩)
            try simp only [Act.put, zq4, zq5, zq6]
            refine wpQ_val (v := ?_) (by rfl) ?_ ?_
            rotate_left
            ·(intro w hSw; (try dsimp only at hSw); have q3 := (HQ.out w hSw).1; have q4 := (HQ.out w hSw).2; have q5 := (HQ2.out w hSw); go_simp <;> (try with_reducible rfl))
            try simp only [Act.put, zq4, zq5, zq6]
            refine wpQ_val (v := ?_) (by rfl) ?_ ?_
            rotate_left
            ·(intro w hSw; (try dsimp only at hSw); have q3 := (HQ.out w hSw).1; have q4 := (HQ.out w hSw).2; have q5 := (HQ2.out w hSw); go_simp <;> (try with_reducible rfl))
            try simp only [Act.put, zq4, zq5, zq6]
            refine wpQ_val (v := ?_) (by rfl) ?_ ?_
            rotate_left
            ·(intro w hSw; (try dsimp only at hSw); have q3 := (HQ.out w hSw).1; have q4 := (HQ.out w hSw).2; have q5 := (HQ2.out w hSw); go_simp <;> (try with_reducible rfl))
            try simp only [Act.put, zq4, zq5, zq6]
            refine wpQ_val (v := ?_) (by rfl) ?_ ?_
            rotate_left
            ·(intro w hSw; (try dsimp only at hSw); have q3 := (HQ.out w hSw).1; have q4 := (HQ.out w hSw).2; have q5 := (HQ2.out w hSw); go_simp <;> (try with_reducible rfl))
            try simp only [Act.put, zq4, zq5, zq6]
            refine wpQ_val (v := ?_) (by rfl) ?_ ?_
            rotate_left
            ·(intro w hSw; (try dsimp only at hSw); have q3 := (HQ.out w hSw).1; have q4 := (HQ.out w hSw).2; have q5 := (HQ2.out w hSw); go_simp <;> (try with_reducible rfl))
            try simp only [Act.put, zq4, zq5, zq6]
            refine wpQ_val (v := ?_) (by rfl) ?_ ?_
            rotate_left
            ·(intro w hSw; (try dsimp only at hSw); have q3 := (HQ.out w hSw).1; have q4 := (HQ.out w hSw).2; have q5 := (HQ2.out w hSw); go_simp <;> (try with_reducible rfl))
            try simp only [Act.put, zq4, zq5, zq6]
            refine wpQ_val (v := ?_) (by rfl) ?_ ?_
            rotate_left
            ·(intro w hSw; (try dsimp only at hSw); have q3 := (HQ.out w hSw).1; have q4 := (HQ.out w hSw).2; have q5 := (HQ2.out w hSw); go_simp <;> (try with_reducible rfl))
            try simp only [Act.put, zq4, zq5, zq6]
            refine wpQ_val (v := ?_) (by rfl) ?_ ?_
            rotate_left
            ·(intro w hSw; (try dsimp only at hSw); have q3 := (HQ.out w hSw).1; have q4 := (HQ.out w hSw).2; have q5 := (HQ2.out w hSw); go_simp <;> (try with_reducible rfl))
            try simp only [Act.put, zq4, zq5, zq6]
            refine wpQ_val (v := ?_) (by rfl) ?_ ?_
            rotate_left
            ·(intro w hSw; (try dsimp only at hSw); have q3 := (HQ.out w hSw).1; have q4 := (HQ.out w hSw).2; have q5 := (HQ2.out w hSw); go_simp <;> (try with_reducible rfl))
            try simp only [Act.put, zq4, zq5, zq6]
            refine wpQ_val (v := ?_) (by rfl) ?_ ?_
            rotate_left
            ·(intro w hSw; (try dsimp only at hSw); have q3 := (HQ.out w hSw).1; have q4 := (HQ.out w hSw).2; have q5 := (HQ2.out w hSw); go_simp <;> (try with_reducible rfl))
            try simp only [Act.put, zq4, zq5, zq6]
            refine wpQ_val (v := ?_) (by rfl) ?_ ?_
            rotate_left
            ·(intro w hSw; (try dsimp only at hSw); have q3 := (HQ.out w hSw).1; have q4 := (HQ.out w hSw).2; have q5 := (HQ2.out w hSw); go_simp <;> (try with_reducible rfl))
            try simp only [Act.put, zq4, zq5, zq6]
            refine wpQ_val (v := ?_) (by rfl) ?_ ?_
            rotate_left
            ·(intro w hSw; (try dsimp only at hSw); have q3 := (HQ.out w hSw).1; have q4 := (HQ.out w hSw).2; have q5 := (HQ2.out w hSw); go_simp <;> (try with_reducible rfl))
            try simp only [Act.put, zq4, zq5, zq6]
            refine wpQ_val (v := ?_) (by rfl) ?_ ?_
            rotate_left
            ·(intro w hSw; (try dsimp only at hSw); have q3 := (HQ.out w hSw).1; have q4 := (HQ.out w hSw).2; have q5 := (HQ2.out w hSw); go_simp <;> (try with_reducible rfl))
            try simp only [Act.put, zq4, zq5, zq6]
            refine wpQ_val (v := ?_) (by rfl) ?_ ?_
            rotate_left
            ·(intro w hSw; (try dsimp only at hSw); have q3 := (HQ.out w hSw).1; have q4 := (HQ.out w hSw).2; have q5 := (HQ2.out w hSw); go_simp <;> (try with_reducible rfl))
            try simp only [Act.put, zq4, zq5, zq6]
            refine wpQ_val (v := ?_) (by rfl) ?_ ?_
            rotate_left
            ·(intro w hSw; (try dsimp only at hSw); have q3 := (HQ.out w hSw).1; have q4 := (HQ.out w hSw).2; have q5 := (HQ2.out w hSw); go_simp <;> (try with_reducible rfl))
            try simp only [Act.put, zq4, zq5, zq6]
            refine wpQ_val (v := ?_) (by rfl) ?_ ?_
            rotate_left
            ·(intro w hSw; (try dsimp only at hSw); have q3 := (HQ.out w hSw).1; have q4 := (HQ.out w hSw).2; have q5 := (HQ2.out w hSw); go_simp <;> (try with_reducible rfl))
            try simp only [Act.put, zq4, zq5, zq6]
            refine wpQ_val (v := ?_) (by rfl) ?_ ?_
            rotate_left
            ·(intro w hSw; (try dsimp only at hSw); have q3 := (HQ.out w hSw).1; have q4 := (HQ.out w hSw).2; have q5 := (HQ2.out w hSw); go_simp <;> (try with_reducible rfl))
            try simp only [Act.put, zq4, zq5, zq6]
            refine wpQ_val (v := ?_) (by rfl) ?_ ?_
            rotate_left
            ·(intro w hSw; (try dsimp only at hSw); have q3 := (HQ.out w hSw).1; have q4 := (HQ.out w hSw).2; have q5 := (HQ2.out w hSw); go_simp <;> (try with_reducible rfl))
            try simp only [Act.put, zq4, zq5, zq6]
            refine wpQ_val (v := ?_) (by rfl) ?_ ?_
            rotate_left
            ·(intro w hSw; (try dsimp only at hSw); have q3 := (HQ.out w hSw).1; have q4 := (HQ.out w hSw).2; have q5 := (HQ2.out w hSw); go_simp <;> (try with_reducible rfl))
            try simp only [Act.put, zq4, zq5, zq6]
            refine wpQuiet_nil ?_
            intro w7 O7
            have HO7 := Lib.hid (HO.out.same O7)
            clear O7
            go_wp2_with fail
            go_roundw
            case rel => exact ⟨HO7, (j' + 1) + 1, by first | rfl | go_num, by omega, HB2⟩
            case measure => simp [RowKit.intOf] <;> omega
        ·obtain rfl : j = n2 := by omega
         obtain rfl : r = true := by
          have h := HB.out
          rw [List.take_of_length_le (Nat.le_of_eq HN2.out)] at h
          rw [← HR.out]
          exact nodeB_all.2 ⟨HZ1.out, HZ2.out, by rw [HN1.out]; omega, by rw [HN2.out]; omega, HAll.out, h.1, h.2⟩
         go_wp2_with fail
         go_ret
         exact ⟨rfl, HO0.out.same HO.out⟩
end
end Go.Proofs.YtmlfchjompfmaaaDoor
namespace Go.Proofs.YtmlfchjompfmaaaDoor
open Go.RowKit
open Lk (nodeB graphB)
abbrev nmB (n : NodeD) : List UInt8 := n.name.toList
theorem graphB_all {g : List NodeD} : graphB (toG g) = true ↔ (∀ n ∈ g, nodeB n.toB = true) ∧ Lk.risB (g.map nmB) = true ∧ g.length ≤ 24 := by
 unfold graphB
 have e : (toG g).map Lk.NB.name = g.map nmB := by simp [toG, NodeD.toB, nmB]
 rw [e]
 simp [toG, and_assoc]
theorem graphB_no {g : List NodeD} {r : Bool} (hr : graphB (toG g) = r) (h : ¬ graphB (toG g) = true) : r = false := by
 cases r with
 | false => rfl
 | true => exact absurd hr h
section
variable {w w' : World} {B : Nat}
set_option maxRecDepth 100000 in
set_option maxHeartbeats 4000000 in
attribute [local irreducible] wpQuiet in
theorem May28_x {v : Value} {g : List NodeD} (hg : RowT 4 NodC B w v g) (r : Bool) (hr : graphB (toG g) = r) :
  Calls Tryd.prog 14 #[.agg #[v]] w (fun e w' => e = .returned (.bool r) ∧ Only (fun _ => False) w w') := by
 have HG := Lib.hid hg
 have HR := Lib.hid hr
 obtain ⟨ao, cap, rfl, k1, k2⟩ := hg.shape
 obtain ⟨n, hn⟩ : ∃ n, g.length = n := ⟨_, rfl⟩
 have HN := Lib.hid hn
 rw [hn] at HG k1 ⊢
 obtain ⟨w0, hw0⟩ : ∃ W, w.alloc (.cells #[.slice ao n cap] 39) = W := ⟨_, rfl⟩
 have hb0 : w0.heap[w.heap.size]? = some (.cells #[.slice ao n cap] 39 (0, 0)) := by rw [← hw0]; exact heap_alloc_new _ _
 have HO0 : Hid (Only (fun _ => False) w w0) := by rw [← hw0]; exact (Only.refl _ _).alloc _
 have HBox : Hid (∀ W, Only (fun _ => False) w0 W → W.cell? ⟨w.heap.size, 0, none⟩ = some (.slice ao n cap)) := fun W o => by
  rw [cell_block (only_block hb0 o (fun f => f))]; rfl
 have b0 := HBox.out w0 (Only.refl _ _)
 clear hg hr hn hb0
 go_enter Tryd.func14, Tryd.ntmps14
 go_wp2_with fail
 go_loopw [3, 7] (fun _ vi wr => Hid (Only (fun _ => False) w0 wr) ∧ ∃ j : Nat, vi = .int .i64 j ∧ j ≤ n ∧ Hid ((∀ s ∈ g.take j, nodeB s.toB = true) ∧ Lk.risB ((g.take j).map nmB) = true)) (fun _ v _ => n - (RowKit.intOf v).toNat)
 case atStart => exact ⟨Only.refl _ _, 0, rfl, Nat.zero_le _, (fun s hs => by simp at hs), rfl⟩
 case round =>
  obtain ⟨HO, j, rfl, hj, HB⟩ := hrel
  by_cases cj : j < n
  ·have ewj : IntKind.i64.wrap ((j : Int) + 1) = (j : Int) + 1 := by rw [IntKind.wrap_i64]; omega
   obtain ⟨y, hy⟩ : ∃ y, g[j]? = some y := ⟨_, List.getElem?_eq_getElem (by rw [HN.out]; exact cj)⟩
   obtain ⟨b, off, le, ca, p1, d1, p2, d2, he1, ky1, ky2, -, -, -, -, -, hE1⟩ := NodC_at (HG.out.keep NodC.keep (Kp.of0 (HO0.out.same HO.out))) hy
   cases he1
   obtain ⟨u, hu⟩ : ∃ z, nodeB y.toB = z := ⟨_, rfl⟩
   have HU := Lib.hid hu
   obtain ⟨m1, hm1⟩ : ∃ m, y.sets.length = m := ⟨_, rfl⟩
   obtain ⟨m2, hm2⟩ : ∃ m, y.needs.length = m := ⟨_, rfl⟩
   have HNd : Hid (∀ W, Only (fun _ => False) wr W → Calls Tryd.prog 30 #[.agg #[.string y.name, .string y.version, .slice p1 m1 d1, .slice p2 m2 d2]] W (fun e w' => e = .returned (.bool u) ∧ Only (fun _ => False) W w')) := fun W o => by
    have h := Node28_x (w := W) ky1 ky2 (hE1 W o).2.1 (hE1 W o).2.2 u hu
    rw [hm1, hm2] at h
    exact h
   have HY := Lib.hid hy
   have HQ : Hid (∀ W, Only (fun _ => False) wr W → W.cell? ⟨w.heap.size, 0, none⟩ = some (.slice (some ⟨b, off, none⟩) n cap) ∧ W.cell? ⟨b, off + j * 4, none⟩ = some (.string y.name) ∧ W.cell? ⟨b, off + j * 4 + 1, none⟩ = some (.string y.version) ∧ W.cell? ⟨b, off + j * 4 + 2, none⟩ = some (.slice p1 m1 d1) ∧ W.cell? ⟨b, off + j * 4 + 3, none⟩ = some (.slice p2 m2 d2)) := fun W o => by
    have h := (hE1 W o).1
    rw [hm1, hm2] at h
    exact ⟨HBox.out W (HO.out.same o), h 0 _ rfl, h 1 _ rfl, h 2 _ rfl, h 3 _ rfl⟩
   have HLast : Hid (∀ hl : Lk.lastB ((g.take j).map nmB) (nmB y) = true, u = true → Hid ((∀ s ∈ g.take (j + 1), nodeB s.toB = true) ∧ Lk.risB ((g.take (j + 1)).map nmB) = true)) := fun hl hu1 => by
    refine ⟨all_snoc HB.out.1 HY.out (by rw [HU.out, hu1]), ?_⟩
    rw [List.take_add_one, HY.out]
    simp only [Option.toList_some, List.map_append, List.map_cons, List.map_nil]
    rw [Lk.ris_snoc, HB.out.2, hl]; rfl
   clear hy hE1 hu ky1 ky2 hm1 hm2
   cases u with
   | false =>
    obtain rfl := graphB_no HR.out (fun h => by have h2 := (graphB_all.1 h).1 y (List.mem_of_getElem? HY.out); rw [HU.out] at h2; cases h2)
    go_wp2_with fail
    refine wp_region_Q (fun w' => Only (fun _ => False) wr w') (by kernel_rfl) (by kernel_rfl) (by exact (Only.refl _ _).drew) ?_
    refine wpQ_val (v := ?_) (by rfl) ?_ ?_
    rotate_left
    ·(intro w hSw; (try dsimp only at hSw); obtain ⟨q3, q4, q5, q6, q7⟩ := HQ.out w hSw; go_simp <;> (try with_reducible rfl))
    try simp only [Act.put, zq4, zq5, zq6]
    refine wpQ_val (v := ?_) (by rfl) ?_ ?_
    rotate_left
    ·(intro w hSw; (try dsimp only at hSw); obtain ⟨q3, q4, q5, q6, q7⟩ := HQ.out w hSw; go_simp <;> (try with_reducible rfl))
    try simp only [Act.put, zq4, zq5, zq6]
    refine wpQ_val (v := ?_) (by rfl) ?_ ?_
    rotate_left
    ·(intro w hSw; (try dsimp only at hSw); obtain ⟨q3, q4, q5, q6, q7⟩ := HQ.out w hSw; go_simp <;> (try with_reducible rfl))
    try simp only [Act.put, zq4, zq5, zq6]
    refine wpQ_val (v := ?_) (by rfl) ?_ ?_
    rotate_left
    ·(intro w hSw; (try dsimp only at hSw); obtain ⟨q3, q4, q5, q6, q7⟩ := HQ.out w hSw; go_simp <;> (try with_reducible rfl))
    try simp only [Act.put, zq4, zq5, zq6]
    refine wpQ_val (v := ?_) (by rfl) ?_ ?_
    rotate_left
    ·(intro w hSw; (try dsimp only at hSw); obtain ⟨q3, q4, q5, q6, q7⟩ := HQ.out w hSw; go_simp <;> (try with_reducible rfl))
    try simp only [Act.put, zq4, zq5, zq6]
    refine wpQ_call (v := .bool false) (f := 30) (args := #[.agg #[.string y.name, .string y.version, .slice p1 m1 d1, .slice p2 m2 d2]]) (by rfl) ?_ ?_ ?_
    ·(intro w; go_simp <;> (try with_reducible rfl))
    ·(intro w hSw; exact (HNd.out w hSw).mono fun _ _ ⟨he, hw⟩ => ⟨he, hSw.same hw⟩)
    try simp only [Act.put, zq4, zq5, zq6]
    refine wpQ_val (v := ?_) (by rfl) ?_ ?_
    rotate_left
    ·(intro w hSw; (try dsimp only at hSw); obtain ⟨q3, q4, q5, q6, q7⟩ := HQ.out w hSw; go_simp <;> (try with_reducible rfl))
    try simp only [Act.put, zq4, zq5, zq6]
    refine wpQ_val (v := ?_) (by rfl) ?_ ?_
    rotate_left
    ·(intro w hSw; (try dsimp only at hSw); obtain ⟨q3, q4, q5, q6, q7⟩ := HQ.out w hSw; go_simp <;> (try with_reducible rfl))
    try simp only [Act.put, zq4, zq5, zq6]
    refine wpQ_skip (by kernel_rfl) ?_
    try simp only [Act.put, zq4, zq5, zq6]
    refine wpQ_skip (by kernel_rfl) ?_
    try simp only [Act.put, zq4, zq5, zq6]
    refine wpQ_skip (by kernel_rfl) ?_
    try simp only [Act.put, zq4, zq5, zq6]
    refine wpQ_skip (by kernel_rfl) ?_
    try simp only [Act.put, zq4, zq5, zq6]
    refine wpQ_skip (by kernel_rfl) ?_
    try simp only [Act.put, zq4, zq5, zq6]
    refine wpQ_skip (by kernel_rfl) ?_
    try simp only [Act.put, zq4, zq5, zq6]
    refine wpQ_skip (by kernel_rfl) ?_
    try simp only [Act.put, zq4, zq5, zq6]
    refine wpQ_skip (by kernel_rfl) ?_
    try simp only [Act.put, zq4, zq5, zq6]
    refine wpQ_skip (by kernel_rfl) ?_
    try simp only [Act.put, zq4, zq5, zq6]
    refine wpQ_skip (by kernel_rfl) ?_
    try simp only [Act.put, zq4, zq5, zq6]
    refine wpQ_skip (by kernel_rfl) ?_
    try simp only [Act.put, zq4, zq5, zq6]
    refine wpQ_skip (by kernel_rfl) ?_
    try simp only [Act.put, zq4, zq5, zq6]
    refine wpQ_skip (by kernel_rfl) ?_
    try simp only [Act.put, zq4, zq5, zq6]
    refine wpQ_skip (by kernel_rfl) ?_
    try simp only [Act.put, zq4, zq5, zq6]
    refine wpQ_skip (by kernel_rfl) ?_
    try simp only [Act.put, zq4, zq5, zq6]
    refine wpQ_skip (by kernel_rfl) ?_
    try simp only [Act.put, zq4, zq5, zq6]
    refine wpQ_skip (by kernel_rfl) ?_
    try simp only [Act.put, zq4, zq5, zq6]
    refine wpQ_skip (by kernel_rfl) ?_
    try simp only [Act.put, zq4, zq5, zq6]
    refine wpQ_val (v := ?_) (by rfl) ?_ ?_
    rotate_left
    ·(intro w hSw; (try dsimp only at hSw); obtain ⟨q3, q4, q5, q6, q7⟩ := HQ.out w hSw; go_simp <;> (try with_reducible rfl))
    try simp only [Act.put, zq4, zq5, zq6]
    refine wpQuiet_nil ?_
    intro w7 O7
    have HO7 := Lib.hid (HO.out.same O7)
    clear O7
    go_wp2_with fail
    go_ret
    exact ⟨rfl, HO0.out.same HO7.out⟩
   | true =>
    rcases j with _ | j'
    ·have HB2 := HLast.out rfl rfl
     have HQz : Hid (∀ W, Only (fun _ => False) wr W → W.cell? ⟨w.heap.size, 0, none⟩ = some (.slice (some ⟨b, off, none⟩) n cap) ∧ W.cell? ⟨b, off, none⟩ = some (.string y.name) ∧ W.cell? ⟨b, off + 1, none⟩ = some (.string y.version) ∧ W.cell? ⟨b, off + 2, none⟩ = some (.slice p1 m1 d1) ∧ W.cell? ⟨b, off + 3, none⟩ = some (.slice p2 m2 d2)) := fun W o => by
      have h := HQ.out W o
      simp only [Nat.zero_mul, Nat.add_zero] at h
      exact h
     go_wp2_with fail
     refine wp_region_Q (fun w' => Only (fun _ => False) wr w') (by kernel_rfl) (by kernel_rfl) (by exact (Only.refl _ _).drew) ?_
     refine wpQ_val (v := ?_) (by rfl) ?_ ?_
     rotate_left
     ·(intro w hSw; (try dsimp only at hSw); obtain ⟨q3, q4, q5, q6, q7⟩ := HQz.out w hSw; go_simp <;> (try with_reducible rfl))
     try simp only [Act.put, zq4, zq5, zq6]
     refine wpQ_val (v := ?_) (by rfl) ?_ ?_
     rotate_left
     ·(intro w hSw; (try dsimp only at hSw); obtain ⟨q3, q4, q5, q6, q7⟩ := HQz.out w hSw; go_simp <;> (try with_reducible rfl))
     try simp only [Act.put, zq4, zq5, zq6]
     refine wpQ_val (v := ?_) (by rfl) ?_ ?_
     rotate_left
     ·(intro w hSw; (try dsimp only at hSw); obtain ⟨q3, q4, q5, q6, q7⟩ := HQz.out w hSw; go_simp <;> (try with_reducible rfl))
     try simp only [Act.put, zq4, zq5, zq6]
     refine wpQ_val (v := ?_) (by rfl) ?_ ?_
     rotate_left
     ·(intro w hSw; (try dsimp only at hSw); obtain ⟨q3, q4, q5, q6, q7⟩ := HQz.out w hSw; go_simp <;> (try with_reducible rfl))
     try simp only [Act.put, zq4, zq5, zq6]
     refine wpQ_val (v := ?_) (by rfl) ?_ ?_
     rotate_left
     ·(intro w hSw; (try dsimp only at hSw); obtain ⟨q3, q4, q5, q6, q7⟩ := HQz.out w hSw; go_simp <;> (try with_reducible rfl))
     try simp only [Act.put, zq4, zq5, zq6]
     refine wpQ_call (v := .bool true) (f := 30) (args := #[.agg #[.string y.name, .string y.version, .slice p1 m1 d1, .slice p2 m2 d2]]) (by rfl) ?_ ?_ ?_
     ·(intro w; go_simp <;> (try with_reducible rfl))
     ·(intro w hSw; exact (HNd.out w hSw).mono fun _ _ ⟨he, hw⟩ => ⟨he, hSw.same hw⟩)
     try simp only [Act.put, zq4, zq5, zq6]
     refine wpQ_val (v := ?_) (by rfl) ?_ ?_
     rotate_left
     ·(intro w hSw; (try dsimp only at hSw); obtain ⟨q3, q4, q5, q6, q7⟩ := HQz.out w hSw; go_simp <;> (try with_reducible rfl))
     try simp only [Act.put, zq4, zq5, zq6]
     refine wpQ_val (v := ?_) (by rfl) ?_ ?_
     rotate_left
     ·(intro w hSw; (try dsimp only at hSw); obtain ⟨q3, q4, q5, q6, q7⟩ := HQz.out w hSw; go_simp <;> (try with_reducible rfl))
     try simp only [Act.put, zq4, zq5, zq6]
     refine wpQ_val (v := ?_) (by rfl) ?_ ?_
     rotate_left
     ·(intro w hSw; (try dsimp only at hSw); obtain ⟨q3, q4, q5, q6, q7⟩ := HQz.out w hSw; go_simp <;> (try with_reducible rfl))
     try simp only [Act.put, zq4, zq5, zq6]
     refine wpQ_val (v := ?_) (by rfl) ?_ ?_
     rotate_left
     ·(intro w hSw; (try dsimp only at hSw); obtain ⟨q3, q4, q5, q6, q7⟩ := HQz.out w hSw; go_simp <;> (try with_reducible rfl))
     try simp only [Act.put, zq4, zq5, zq6]
     refine wpQ_val (v := ?_) (by rfl) ?_ ?_
     rotate_left
     ·(intro w hSw; (try dsimp only at hSw); obtain ⟨q3, q4, q5, q6, q7⟩ := HQz.out w hSw; go_simp <;> (try with_reducible rfl))
     try simp only [Act.put, zq4, zq5, zq6]
     refine wpQ_skip (by kernel_rfl) ?_
     try simp only [Act.put, zq4, zq5, zq6]
     refine wpQ_skip (by kernel_rfl) ?_
     try simp only [Act.put, zq4, zq5, zq6]
     refine wpQ_skip (by kernel_rfl) ?_
     try simp only [Act.put, zq4, zq5, zq6]
     refine wpQ_skip (by kernel_rfl) ?_
     try simp only [Act.put, zq4, zq5, zq6]
     refine wpQ_skip (by kernel_rfl) ?_
     try simp only [Act.put, zq4, zq5, zq6]
     refine wpQ_skip (by kernel_rfl) ?_
     try simp only [Act.put, zq4, zq5, zq6]
     refine wpQ_skip (by kernel_rfl) ?_
     try simp only [Act.put, zq4, zq5, zq6]
     refine wpQ_skip (by kernel_rfl) ?_
     try simp only [Act.put, zq4, zq5, zq6]
     refine wpQ_skip (by kernel_rfl) ?_
     try simp only [Act.put, zq4, zq5, zq6]
     refine wpQ_skip (by kernel_rfl) ?_
     try simp only [Act.put, zq4, zq5, zq6]
     refine wpQ_skip (by kernel_rfl) ?_
     try simp only [Act.put, zq4, zq5, zq6]
     refine wpQ_skip (by kernel_rfl) ?_
     try simp only [Act.put, zq4, zq5, zq6]
     refine wpQ_skip (by kernel_rfl) ?_
     try simp only [Act.put, zq4, zq5, zq6]
     refine wpQ_skip (by kernel_rfl) ?_
     try simp only [Act.put, zq4, zq5, zq6]
     refine wpQ_val (v := ?_) (by rfl) ?_ ?_
     rotate_left
     ·(intro w hSw; (try dsimp only at hSw); obtain ⟨q3, q4, q5, q6, q7⟩ := HQz.out w hSw; go_simp <;> (try with_reducible rfl))
     try simp only [Act.put, zq4, zq5, zq6]
     refine wpQ_val (v := ?_) (by rfl) ?_ ?_
     rotate_left
     ·(intro w hSw; (try dsimp only at hSw); obtain ⟨q3, q4, q5, q6, q7⟩ := HQz.out w hSw; go_simp <;> (try with_reducible rfl))
     try simp only [Act.put, zq4, zq5, zq6]
     refine wpQuiet_nil ?_
     intro w7 O7
     have HO7 := Lib.hid (HO.out.same O7)
     clear O7
     go_wp2_with fail
     go_roundw
     case rel => exact ⟨HO7, 0 + 1, by first | rfl | go_num, by omega, HB2⟩
     case measure => simp [RowKit.intOf] <;> omega
    ·obtain ⟨y', hy'⟩ : ∃ y', g[j']? = some y' := ⟨_, List.getElem?_eq_getElem (by rw [HN.out]; omega)⟩
     have hlast : Lk.lastB ((g.take (j' + 1)).map nmB) (nmB y) = decide (nmB y' < nmB y) := by
      unfold Lk.lastB
      rw [List.take_add_one, hy']
      simp only [Option.toList_some, List.map_append, List.map_cons, List.map_nil, List.getLast?_concat]
     obtain ⟨b', off', le', ca', p1', d1', p2', d2', he2, -, -, -, -, -, -, -, hE2⟩ := NodC_at (HG.out.keep NodC.keep (Kp.of0 (HO0.out.same HO.out))) hy'
     cases he2
     have HQ2 : Hid (∀ W, Only (fun _ => False) wr W → W.cell? ⟨b, off + j' * 4, none⟩ = some (.string y'.name)) := fun W o => (hE2 W o).1 0 _ rfl
     have ewk : IntKind.i64.wrap ((j' : Int) + 1 - 1) = (j' : Int) := by rw [IntKind.wrap_i64]; omega
     have ewk2 : IntKind.i64.wrap (j' : Int) = (j' : Int) := by rw [IntKind.wrap_i64]; omega
     have hk0 : (0 : Int) < (j' : Int) + 1 := by omega
     have hk1 : (0 : Int) ≤ (j' : Int) + 1 := by omega
     have hkk : j' < n := by omega
     have hkk2 : (j' : Int) + 1 < (n : Int) := by omega
     have HLastB := Lib.hid hlast
     clear hlast hy' hE2
     cases hlt : decide (nmB y' < nmB y) with
     | false =>
      obtain rfl := graphB_no HR.out (fun h => by
       have h2 := (graphB_all.1 h).2.1
       have h3 : g = g.take (j' + 2) ++ g.drop (j' + 2) := (List.take_append_drop _ _).symm
       rw [h3, List.map_append] at h2
       have h4 := Lk.ris_take h2
       rw [List.take_add_one, HY.out] at h4
       simp only [Option.toList_some, List.map_append, List.map_cons, List.map_nil] at h4
       rw [Lk.ris_snoc, HLastB.out, hlt] at h4
       simp at h4)
      have hbl : Op.bytesLess y'.name.toList y.name.toList = false := by rw [bytesLess_x]; exact hlt
      clear hlt HLast
      go_wp2_with fail
      refine wp_region_Q (fun w' => Only (fun _ => False) wr w') (by kernel_rfl) (by kernel_rfl) (by exact (Only.refl _ _).drew) ?_
      refine wpQ_val (v := ?_) (by rfl) ?_ ?_
      rotate_left
      ·(intro w hSw; (try dsimp only at hSw); obtain ⟨q3, q4, q5, q6, q7⟩ := HQ.out w hSw; have q8 := (HQ2.out w hSw); go_simp <;> (try with_reducible rfl))
      try simp only [Act.put, zq4, zq5, zq6]
      refine wpQ_val (v := ?_) (by rfl) ?_ ?_
      rotate_left
      ·(intro w hSw; (try dsimp only at hSw); obtain ⟨q3, q4, q5, q6, q7⟩ := HQ.out w hSw; have q8 := (HQ2.out w hSw); go_simp <;> (try with_reducible rfl))
      try simp only [Act.put, zq4, zq5, zq6]
      refine wpQ_val (v := ?_) (by rfl) ?_ ?_
      rotate_left
      ·(intro w hSw; (try dsimp only at hSw); obtain ⟨q3, q4, q5, q6, q7⟩ := HQ.out w hSw; have q8 := (HQ2.out w hSw); go_simp <;> (try with_reducible rfl))
      try simp only [Act.put, zq4, zq5, zq6]
      refine wpQ_val (v := ?_) (by rfl) ?_ ?_
      rotate_left
      ·(intro w hSw; (try dsimp only at hSw); obtain ⟨q3, q4, q5, q6, q7⟩ := HQ.out w hSw; have q8 := (HQ2.out w hSw); go_simp <;> (try with_reducible rfl))
      try simp only [Act.put, zq4, zq5, zq6]
      refine wpQ_val (v := ?_) (by rfl) ?_ ?_
      rotate_left
      ·(intro w hSw; (try dsimp only at hSw); obtain ⟨q3, q4, q5, q6, q7⟩ := HQ.out w hSw; have q8 := (HQ2.out w hSw); go_simp <;> (try with_reducible rfl))
      try simp only [Act.put, zq4, zq5, zq6]
      refine wpQ_call (v := .bool true) (f := 30) (args := #[.agg #[.string y.name, .string y.version, .slice p1 m1 d1, .slice p2 m2 d2]]) (by rfl) ?_ ?_ ?_
      ·(intro w; go_simp <;> (try with_reducible rfl))
      ·(intro w hSw; exact (HNd.out w hSw).mono fun _ _ ⟨he, hw⟩ => ⟨he, hSw.same hw⟩)
      try simp only [Act.put, zq4, zq5, zq6]
      refine wpQ_val (v := ?_) (by rfl) ?_ ?_
      rotate_left
      ·(intro w hSw; (try dsimp only at hSw); obtain ⟨q3, q4, q5, q6, q7⟩ := HQ.out w hSw; have q8 := (HQ2.out w hSw); go_simp <;> (try with_reducible rfl))
      try simp only [Act.put, zq4, zq5, zq6]
      refine wpQ_val (v := ?_) (by rfl) ?_ ?_
      rotate_left
      ·(intro w hSw; (try dsimp only at hSw); obtain ⟨q3, q4, q5, q6, q7⟩ := HQ.out w hSw; have q8 := (HQ2.out w hSw); go_simp <;> (try with_reducible rfl))
      try simp only [Act.put, zq4, zq5, zq6]
      refine wpQ_val (v := ?_) (by rfl) ?_ ?_
      rotate_left
      ·(intro w hSw; (try dsimp only at hSw); obtain ⟨q3, q4, q5, q6, q7⟩ := HQ.out w hSw; have q8 := (HQ2.out w hSw); go_simp <;> (try with_reducible rfl))
      try simp only [Act.put, zq4, zq5, zq6]
      refine wpQ_val (v := ?_) (by rfl) ?_ ?_
      rotate_left
      ·(intro w hSw; (try dsimp only at hSw); obtain ⟨q3, q4, q5, q6, q7⟩ := HQ.out w hSw; have q8 := (HQ2.out w hSw); go_simp <;> (try with_reducible rfl))
      try simp only [Act.put, zq4, zq5, zq6]
      refine wpQ_val (v := ?_) (by rfl) ?_ ?_
      rotate_left
      ·(intro w hSw; (try dsimp only at hSw); obtain ⟨q3, q4, q5, q6, q7⟩ := HQ.out w hSw; have q8 := (HQ2.out w hSw); go_simp <;> (try with_reducible rfl))
      try simp only [Act.put, zq4, zq5, zq6]
      refine wpQ_val (v := ?_) (by rfl) ?_ ?_
      rotate_left
      ·(intro w hSw; (try dsimp only at hSw); obtain ⟨q3, q4, q5, q6, q7⟩ := HQ.out w hSw; have q8 := (HQ2.out w hSw); go_simp <;> (try with_reducible rfl))
      try simp only [Act.put, zq4, zq5, zq6]
      refine wpQ_val (v := ?_) (by rfl) ?_ ?_
      rotate_left
      ·(intro w hSw; (try dsimp only at hSw); obtain ⟨q3, q4, q5, q6, q7⟩ := HQ.out w hSw; have q8 := (HQ2.out w hSw); go_simp <;> (try with_reducible rfl))
      try simp only [Act.put, zq4, zq5, zq6]
      refine wpQ_val (v := ?_) (by rfl) ?_ ?_
      rotate_left
      ·(intro w hSw; (try dsimp only at hSw); obtain ⟨q3, q4, q5, q6, q7⟩ := HQ.out w hSw; have q8 := (HQ2.out w hSw); go_simp <;> (try with_reducible rfl))
      try simp only [Act.put, zq4, zq5, zq6]
      refine wpQ_val (v := ?_) (by rfl) ?_ ?_
      rotate_left
      ·(intro w hSw; (try dsimp only at hSw); obtain ⟨q3, q4, q5, q6, q7⟩ := HQ.out w hSw; have q8 := (HQ2.out w hSw); go_simp <;> (try with_reducible rfl))
      try simp only [Act.put, zq4, zq5, zq6]
      refine wpQ_val (v := ?_) (by rfl) ?_ ?_
      rotate_left
      ·(intro w hSw; (try dsimp only at hSw); obtain ⟨q3, q4, q5, q6, q7⟩ := HQ.out w hSw; have q8 := (HQ2.out w hSw); go_simp <;> (try with_reducible rfl))
      try simp only [Act.put, zq4, zq5, zq6]
      refine wpQ_val (v := ?_) (by rfl) ?_ ?_
      rotate_left
      ·(intro w hSw; (try dsimp only at hSw); obtain ⟨q3, q4, q5, q6, q7⟩ := HQ.out w hSw; have q8 := (HQ2.out w hSw); go_simp <;> (try with_reducible rfl))
      try simp only [Act.put, zq4, zq5, zq6]
      refine wpQ_val (v := ?_) (by rfl) ?_ ?_
      rotate_left
      ·(intro w hSw; (try dsimp only at hSw); obtain ⟨q3, q4, q5, q6, q7⟩ := HQ.out w hSw; have q8 := (HQ2.out w hSw); go_simp <;> (try with_reducible rfl))
      try simp only [Act.put, zq4, zq5, zq6]
      refine wpQ_val (v := ?_) (by rfl) ?_ ?_
      rotate_left
      ·(intro w hSw; (try dsimp only at hSw); obtain ⟨q3, q4, q5, q6, q7⟩ := HQ.out w hSw; have q8 := (HQ2.out w hSw); go_simp <;> (try with_reducible rfl))
      try simp only [Act.put, zq4, zq5, zq6]
      refine wpQ_val (v := ?_) (by rfl) ?_ ?_
      rotate_left
      ·(intro w hSw; (try dsimp only at hSw); obtain ⟨q3, q4, q5, q6, q7⟩ := HQ.out w hSw; have q8 := (HQ2.out w hSw); go_simp <;> (try with_reducible rfl))
      try simp only [Act.put, zq4, zq5, zq6]
      refine wpQ_val (v := ?_) (by rfl) ?_ ?_
      rotate_left
      ·(intro w hSw; (try dsimp only at hSw); obtain ⟨q3, q4, q5, q6, q7⟩ := HQ.out w hSw; have q8 := (HQ2.out w hSw); go_simp <;> (try with_reducible rfl))
      try simp only [Act.put, zq4, zq5, zq6]
      refine wpQ_val (v := ?_) (by rfl) ?_ ?_
      rotate_left
      ·(intro w hSw; (try dsimp only at hSw); obtain ⟨q3, q4, q5, q6, q7⟩ := HQ.out w hSw; have q8 := (HQ2.out w hSw); go_simp <;> (try with_reducible rfl))
      try simp only [Act.put, zq4, zq5, zq6]
      refine wpQ_val (v := ?_) (by rfl) ?_ ?_
      rotate_left
      ·(intro w hSw; (try dsimp only at hSw); obtain ⟨q3, q4, q5, q6, q7⟩ := HQ.out w hSw; have q8 := (HQ2.out w hSw); go_simp <;> (try with_reducible rfl))
      try simp only [Act.put, zq4, zq5, zq6]
      refine wpQ_val (v := ?_) (by rfl) ?_ ?_
      rotate_left
      ·(intro w hSw; (try dsimp only at hSw); obtain ⟨q3, q4, q5, q6, q7⟩ := HQ.out w hSw; have q8 := (HQ2.out w hSw); go_simp <;> (try with_reducible rfl))
      try simp only [Act.put, zq4, zq5, zq6]
      refine wpQ_val (v := ?_) (by rfl) ?_ ?_
      rotate_left
      ·(intro w hSw; (try dsimp only at hSw); obtain ⟨q3, q4, q5, q6, q7⟩ := HQ.out w hSw; have q8 := (HQ2.out w hSw); go_simp <;> (try with_reducible rfl))
      try simp only [Act.put, zq4, zq5, zq6]
      refine wpQ_val (v := ?_) (by rfl) ?_ ?_
      rotate_left
      ·(intro w hSw; (try dsimp only at hSw); obtain ⟨q3, q4, q5, q6, q7⟩ := HQ.out w hSw; have q8 := (HQ2.out w hSw); go_simp <;> (try with_reducible rfl))
      try simp only [Act.put, zq4, zq5, zq6]
      refine wpQ_val (v := ?_) (by rfl) ?_ ?_
      rotate_left
      ·(intro w hSw; (try dsimp only at hSw); obtain ⟨q3, q4, q5, q6, q7⟩ := HQ.out w hSw; have q8 := (HQ2.out w hSw); go_simp <;> (try with_reducible rfl))
      try simp only [Act.put, zq4, zq5, zq6]
      refine wpQuiet_nil ?_
      intro w7 O7
      have HO7 := Lib.hid (HO.out.same O7)
      clear O7
      go_wp2_with fail
      go_ret
      exact ⟨rfl, HO0.out.same HO7.out⟩
     | true =>
      have HB2 := HLast.out (by rw [HLastB.out, hlt]) rfl
      have hbl : Op.bytesLess y'.name.toList y.name.toList = true := by rw [bytesLess_x]; exact hlt
      clear hlt HLast
      go_wp2_with fail
      refine wp_region_Q (fun w' => Only (fun _ => False) wr w') (by kernel_rfl) (by kernel_rfl) (by exact (Only.refl _ _).drew) ?_
      refine wpQ_val (v := ?_) (by rfl) ?_ ?_
      rotate_left
      ·(intro w hSw; (try dsimp only at hSw); obtain ⟨q3, q4, q5, q6, q7⟩ := HQ.out w hSw; have q8 := (HQ2.out w hSw); go_simp <;> (try with_reducible rfl))
      try simp only [Act.put, zq4, zq5, zq6]
      refine wpQ_val (v := ?_) (by rfl) ?_ ?_
      rotate_left
      ·(intro w hSw; (try dsimp only at hSw); obtain ⟨q3, q4, q5, q6, q7⟩ := HQ.out w hSw; have q8 := (HQ2.out w hSw); go_simp <;> (try with_reducible rfl))
      try simp only [Act.put, zq4, zq5, zq6]
      refine wpQ_val (v := ?_) (by rfl) ?_ ?_
      rotate_left
      ·(intro w hSw; (try dsimp only at hSw); obtain ⟨q3, q4, q5, q6, q7⟩ := HQ.out w hSw; have q8 := (HQ2.out w hSw); go_simp <;> (try with_reducible rfl))
      try simp only [Act.put, zq4, zq5, zq6]
      refine wpQ_val (v := ?_) (by rfl) ?_ ?_
      rotate_left
      ·(intro w hSw; (try dsimp only at hSw); obtain ⟨q3, q4, q5, q6, q7⟩ := HQ.out w hSw; have q8 := (HQ2.out w hSw); go_simp <;> (try with_reducible rfl))
      try simp only [Act.put, zq4, zq5, zq6]
      refine wpQ_val (v := ?_) (by rfl) ?_ ?_
      rotate_left
      ·(intro w hSw; (try dsimp only at hSw); obtain ⟨q3, q4, q5, q6, q7⟩ := HQ.out w hSw; have q8 := (HQ2.out w hSw); go_simp <;> (try with_reducible rfl))
      try simp only [Act.put, zq4, zq5, zq6]
      refine wpQ_call (v := .bool true) (f := 30) (args := #[.agg #[.string y.name, .string y.version, .slice p1 m1 d1, .slice p2 m2 d2]]) (by rfl) ?_ ?_ ?_
      ·(intro w; go_simp <;> (try with_reducible rfl))
      ·(intro w hSw; exact (HNd.out w hSw).mono fun _ _ ⟨he, hw⟩ => ⟨he, hSw.same hw⟩)
      try simp only [Act.put, zq4, zq5, zq6]
      refine wpQ_val (v := ?_) (by rfl) ?_ ?_
      rotate_left
      ·(intro w hSw; (try dsimp only at hSw); obtain ⟨q3, q4, q5, q6, q7⟩ := HQ.out w hSw; have q8 := (HQ2.out w hSw); go_simp <;> (try with_reducible rfl))
      try simp only [Act.put, zq4, zq5, zq6]
      refine wpQ_val (v := ?_) (by rfl) ?_ ?_
      rotate_left
      ·(intro w hSw; (try dsimp only at hSw); obtain ⟨q3, q4, q5, q6, q7⟩ := HQ.out w hSw; have q8 := (HQ2.out w hSw); go_simp <;> (try with_reducible rfl))
      try simp only [Act.put, zq4, zq5, zq6]
      refine wpQ_val (v := ?_) (by rfl) ?_ ?_
      rotate_left
      ·(intro w hSw; (try dsimp only at hSw); obtain ⟨q3, q4, q5, q6, q7⟩ := HQ.out w hSw; have q8 := (HQ2.out w hSw); go_simp <;> (try with_reducible rfl))
      try simp only [Act.put, zq4, zq5, zq6]
      refine wpQ_val (v := ?_) (by rfl) ?_ ?_
      rotate_left
      ·(intro w hSw; (try dsimp only at hSw); obtain ⟨q3, q4, q5, q6, q7⟩ := HQ.out w hSw; have q8 := (HQ2.out w hSw); go_simp <;> (try with_reducible rfl))
      try simp only [Act.put, zq4, zq5, zq6]
      refine wpQ_val (v := ?_) (by rfl) ?_ ?_
      rotate_left
      ·(intro w hSw; (try dsimp only at hSw); obtain ⟨q3, q4, q5, q6, q7⟩ := HQ.out w hSw; have q8 := (HQ2.out w hSw); go_simp <;> (try with_reducible rfl))
      try simp only [Act.put, zq4, zq5, zq6]
      refine wpQ_val (v := ?_) (by rfl) ?_ ?_
      rotate_left
      ·(intro w hSw; (try dsimp only at hSw); obtain ⟨q3, q4, q5, q6, q7⟩ := HQ.out w hSw; have q8 := (HQ2.out w hSw); go_simp <;> (try with_reducible rfl))
      try simp only [Act.put, zq4, zq5, zq6]
      refine wpQ_val (v := ?_) (by rfl) ?_ ?_
      rotate_left
      ·(intro w hSw; (try dsimp only at hSw); obtain ⟨q3, q4, q5, q6, q7⟩ := HQ.out w hSw; have q8 := (HQ2.out w hSw); go_simp <;> (try with_reducible rfl))
      try simp only [Act.put, zq4, zq5, zq6]
      refine wpQ_val (v := ?_) (by rfl) ?_ ?_
      rotate_left
      ·(intro w hSw; (try dsimp only at hSw); obtain ⟨q3, q4, q5, q6, q7⟩ := HQ.out w hSw; have q8 := (HQ2.out w hSw); go_simp <;> (try with_reducible rfl))
      try simp only [Act.put, zq4, zq5, zq6]
      refine wpQ_val (v := ?_) (by rfl) ?_ ?_
      rotate_left
      ·(intro w hSw; (try dsimp only at hSw); obtain ⟨q3, q4, q5, q6, q7⟩ := HQ.out w hSw; have q8 := (HQ2.out w hSw); go_simp <;> (try with_reducible rfl))
      try simp only [Act.put, zq4, zq5, zq6]
      refine wpQ_val (v := ?_) (by rfl) ?_ ?_
      rotate_left
      ·(intro w hSw; (try dsimp only at hSw); obtain ⟨q3, q4, q5, q6, q7⟩ := HQ.out w hSw; have q8 := (HQ2.out w hSw); go_simp <;> (try with_reducible rfl))
      try simp only [Act.put, zq4, zq5, zq6]
      refine wpQ_val (v := ?_) (by rfl) ?_ ?_
      rotate_left
      ·(intro w hSw; (try dsimp only at hSw); obtain ⟨q3, q4, q5, q6, q7⟩ := HQ.out w hSw; have q8 := (HQ2.out w hSw); go_simp <;> (try with_reducible rfl))
      try simp only [Act.put, zq4, zq5, zq6]
      refine wpQ_val (v := ?_) (by rfl) ?_ ?_
      rotate_left
      ·(intro w hSw; (try dsimp only at hSw); obtain ⟨q3, q4, q5, q6, q7⟩ := HQ.out w hSw; have q8 := (HQ2.out w hSw); go_simp <;> (try with_reducible rfl))
      try simp only [Act.put, zq4, zq5, zq6]
      refine wpQ_val (v := ?_) (by rfl) ?_ ?_
      rotate_left
      ·(intro w hSw; (try dsimp only at hSw); obtain ⟨q3, q4, q5, q6, q7⟩ := HQ.out w hSw; have q8 := (HQ2.out w hSw); go_simp <;> (try with_reducible rfl))
      try simp only [Act.put, zq4, zq5, zq6]
      refine wpQ_val (v := ?_) (by rfl) ?_ ?_
      rotate_left
      ·(intro w hSw; (try dsimp only at hSw); obtain ⟨q3, q4, q5, q6, q7⟩ := HQ.out w hSw; have q8 := (HQ2.out w hSw); go_simp <;> (try with_reducible rfl))
      try simp only [Act.put, zq4, zq5, zq6]
      refine wpQ_val (v := ?_) (by rfl) ?_ ?_
      rotate_left
      ·(intro w hSw; (try dsimp only at hSw); obtain ⟨q3, q4, q5, q6, q7⟩ := HQ.out w hSw; have q8 := (HQ2.out w hSw); go_simp <;> (try with_reducible rfl))
      try simp only [Act.put, zq4, zq5, zq6]
      refine wpQ_val (v := ?_) (by rfl) ?_ ?_
      rotate_left
      ·(intro w hSw; (try dsimp only at hSw); obtain ⟨q3, q4, q5, q6, q7⟩ := HQ.out w hSw; have q8 := (HQ2.out w hSw); go_simp <;> (try with_reducible rfl))
      try simp only [Act.put, zq4, zq5, zq6]
      refine wpQ_val (v := ?_) (by rfl) ?_ ?_
      rotate_left
      ·(intro w hSw; (try dsimp only at hSw); obtain ⟨q3, q4, q5, q6, q7⟩ := HQ.out w hSw; have q8 := (HQ2.out w hSw); go_simp <;> (try with_reducible rfl))
      try simp only [Act.put, zq4, zq5, zq6]
      refine wpQ_val (v := ?_) (by rfl) ?_ ?_
      rotate_left
      ·(intro w hSw; (try dsimp only at hSw); obtain ⟨q3, q4, q5, q6, q7⟩ := HQ.out w hSw; have q8 := (HQ2.out w hSw); go_simp <;> (try with_reducible rfl))
      try simp only [Act.put, zq4, zq5, zq6]
      refine wpQ_val (v := ?_) (by rfl) ?_ ?_
      rotate_left
      ·(intro w hSw; (try dsimp only at hSw); obtain ⟨q3, q4, q5, q6, q7⟩ := HQ.out w hSw; have q8 := (HQ2.out w hSw); go_simp <;> (try with_reducible rfl))
      try simp only [Act.put, zq4, zq5, zq6]
      refine wpQ_val (v := ?_) (by rfl) ?_ ?_
      rotate_left
      ·(intro w hSw; (try dsimp only at hSw); obtain ⟨q3, q4, q5, q6, q7⟩ := HQ.out w hSw; have q8 := (HQ2.out w hSw); go_simp <;> (try with_reducible rfl))
      try simp only [Act.put, zq4, zq5, zq6]
      refine wpQ_val (v := ?_) (by rfl) ?_ ?_
      rotate_left
      ·(intro w hSw; (try dsimp only at hSw); obtain ⟨q3, q4, q5, q6, q7⟩ := HQ.out w hSw; have q8 := (HQ2.out w hSw); go_simp <;> (try with_reducible rfl))
      try simp only [Act.put, zq4, zq5, zq6]
      refine wpQuiet_nil ?_
      intro w7 O7
      have HO7 := Lib.hid (HO.out.same O7)
      clear O7
      go_wp2_with fail
      go_roundw
      case rel => exact ⟨HO7, (j' + 1) + 1, by first | rfl | go_num, by omega, HB2⟩
      case measure => simp [RowKit.intOf] <;> omega
  ·obtain rfl : j = n := by omega
   have hra : r = decide (j ≤ 24) := by
    have h := HB.out
    rw [List.take_of_length_le (Nat.le_of_eq HN.out)] at h
    rw [Bool.eq_iff_iff, ← HR.out, graphB_all, decide_eq_true_eq, HN.out]
    exact ⟨fun h => h.2.2, fun h2 => ⟨h.1, h.2, h2⟩⟩
   have b1 := HBox.out wr HO.out
   by_cases c24 : j ≤ 24
   ·rw [decide_eq_true c24] at hra
    subst hra
    have t1 : decide ((j : Int) ≤ 24) = true := decide_eq_true (by omega)
    go_wp2_with fail
    go_ret
    exact ⟨rfl, HO0.out.same HO.out⟩
   ·rw [decide_eq_false c24] at hra
    subst hra
    have t1 : decide ((j : Int) ≤ 24) = false := decide_eq_false (by omega)
    go_wp2_with fail
    go_ret
    exact ⟨rfl, HO0.out.same HO.out⟩
end
end Go.Proofs.YtmlfchjompfmaaaDoor
namespace Go.Proofs.YtmlfchjompfmaaaDoor
open Go.RowKit
open Lk (cutAt)
theorem pre_iff {p l : List UInt8} : p.isPrefixOf l = (decide (p.length ≤ l.length) && (l.take p.length == p)) := by
 rw [Bool.eq_iff_iff, List.isPrefixOf_iff_prefix, Bool.and_eq_true, decide_eq_true_eq, beq_iff_eq]
 exact ⟨fun h => ⟨h.length_le, (List.prefix_iff_eq_take.1 h).symm⟩, fun h => List.prefix_iff_eq_take.2 h.2.symm⟩
def AtOf (s : Str) (c : UInt8) (r : Int) : Prop := match cutAt c s.toList with
 | none => r = -1
 | some p => ∃ k : Nat, r = k ∧ k < s.size ∧ s.toList.take k = p.1 ∧ s.toList.drop (k + 1) = p.2
theorem cutAt_none {c : UInt8} : ∀ {l : List UInt8}, (∀ b ∈ l, b ≠ c) → cutAt c l = none
 | [], _ => rfl
 | x :: l, h => by
  unfold cutAt
  rw [if_neg (h x List.mem_cons_self), cutAt_none fun b hb => h b (List.mem_cons_of_mem _ hb)]; rfl
theorem AtOf.hit {s : Str} {c : UInt8} {k : Nat} (hk : k < s.size) (hb : s[k] = c) (hn : ∀ b ∈ s.toList.take k, b ≠ c) : AtOf s c k := by
 have e : s.toList = s.toList.take k ++ c :: s.toList.drop (k + 1) := by
  conv => lhs; rw [← List.take_append_drop k s.toList]
  have hl : k < s.toList.length := by rw [size_toList]; exact hk
  rw [List.drop_eq_getElem_cons hl, toList_get hl hk, hb]
 have h := Lk.cutAt_at (r := s.toList.drop (k + 1)) hn
 rw [← e] at h
 unfold AtOf
 rw [h]
 exact ⟨k, rfl, hk, rfl, rfl⟩
theorem AtOf.miss {s : Str} {c : UInt8} (hn : ∀ b ∈ s.toList, b ≠ c) : AtOf s c (-1) := by
 unfold AtOf
 rw [cutAt_none hn]
section
variable {w w' : World} {B : Nat}
set_option maxRecDepth 100000 in
theorem RPrefix_x (s p : Str) (hs : okS s) (hp : p.size ≤ 1000) (r : Bool) (hr : p.toList.isPrefixOf s.toList = r) :
  Calls Tryd.prog 63 #[.string s, .string p] w (fun e w' => e = .returned (.bool r) ∧ w' = w) := by
 have hs2 : s.size ≤ 9223372036854775807 := by unfold okS maxLen at hs; omega
 rw [pre_iff, size_toList, size_toList] at hr
 have HR := Lib.hid hr
 clear hs hr
 by_cases c : p.size ≤ s.size
 ·obtain ⟨q, hq⟩ : ∃ q, (s.toList.take p.size == p.toList) = q := ⟨_, rfl⟩
  have hr2 : q = r := by rw [← HR.out, decide_eq_true c, Bool.true_and, hq]
  obtain ⟨u, hu⟩ : ∃ u, s.extract 0 p.size = u := ⟨_, rfl⟩
  have hul : (u.toList == p.toList) = r := by rw [← hu, ext_toList, ← hr2, ← hq]; simp
  clear HR hq hr2 q
  go_enter Tryd.func63, Tryd.ntmps63
  go_wp2_with fail
  go_ret
  exact ⟨by simp, rfl⟩
 ·obtain rfl : r = false := by rw [← HR.out, decide_eq_false c, Bool.false_and]
  have t1 : decide ((p.size : Int) ≤ (s.size : Int)) = false := decide_eq_false (by omega)
  clear HR
  go_enter Tryd.func63, Tryd.ntmps63
  go_wp2_with fail
  go_ret
  exact ⟨rfl, rfl⟩
set_option maxRecDepth 100000 in
theorem At28_x (s : Str) (hs : okS s) (c : UInt8) :
  Calls Tryd.prog 64 #[.string s, .int .u8 (c.toNat : Int)] w (fun e w' => ∃ r, e = .returned (.int .i64 r) ∧ AtOf s c r ∧ Only (fun _ => False) w w') := by
 have hs2 : s.size ≤ 9223372036854775807 := by unfold okS maxLen at hs; omega
 clear hs
 go_enter Tryd.func64, Tryd.ntmps64
 go_wp2_with fail
 go_loopw [5] (fun vi wr => Hid (Only (fun _ => False) w wr) ∧ ∃ i : Nat, vi = .int .i64 i ∧ i ≤ s.size ∧ Hid (∀ b ∈ s.toList.take i, b ≠ c)) (fun v _ => s.size - (RowKit.intOf v).toNat)
 case atStart => exact ⟨Only.refl _ _, 0, rfl, Nat.zero_le _, fun b hb => by simp at hb⟩
 case round =>
  obtain ⟨HO, i, rfl, hi, HA⟩ := hrel
  by_cases ci : i < s.size
  ·have ewi : IntKind.i64.wrap ((i : Int) + 1) = (i : Int) + 1 := by rw [IntKind.wrap_i64]; omega
   obtain ⟨b, hb⟩ : ∃ b : UInt8, s[i] = b := ⟨_, rfl⟩
   have HB := Lib.hid hb
   by_cases cb : b = c
   ·have HAt := Lib.hid (AtOf.hit ci (by rw [HB.out, cb]) HA.out)
    have q1 : ((b.toNat : Int) == (c.toNat : Int)) = true := by rw [cb]; exact beq_self_eq_true _
    clear cb
    go_wp2_with fail
    go_ret
    exact ⟨_, rfl, HAt.out, HO.out⟩
   ·have q1 : ((b.toNat : Int) == (c.toNat : Int)) = false := by
     rw [beq_eq_false_iff_ne]
     intro h
     exact cb (UInt8.toNat_inj.1 (by omega))
    have HA2 : Hid (∀ b ∈ s.toList.take (i + 1), b ≠ c) := fun x hx => by
     rw [List.take_add_one, toList_at ci, HB.out] at hx
     rcases List.mem_append.1 hx with h | h
     ·exact HA.out x h
     ·simp only [Option.toList_some, List.mem_singleton] at h; rw [h]; exact cb
    clear cb
    go_wp2_with fail
    go_roundw
    case rel => exact ⟨HO, i + 1, by first | rfl | go_num, by omega, HA2⟩
    case measure => simp [RowKit.intOf] <;> omega
  ·obtain rfl : i = s.size := by omega
   have HAt : Hid (AtOf s c (-1)) := AtOf.miss (by have h := HA.out; rw [take_size] at h; exact h)
   go_wp2_with fail
   go_ret
   exact ⟨_, rfl, HAt.out, HO.out⟩
end
end Go.Proofs.YtmlfchjompfmaaaDoor

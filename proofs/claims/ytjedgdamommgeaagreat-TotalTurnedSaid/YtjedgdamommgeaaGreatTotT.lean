/- The walk of cooperlaw23.TotalTurned. -/
import Derived.Test.YtjedgdamommgeaaGreatTotU
set_option linter.unusedVariables false
namespace Go.Proofs.YtjedgdamommgeaaGreat
open Go.RowKit
open Cnf (soB)
section
variable {w : World}
set_option maxRecDepth 100000 in
set_option maxHeartbeats 3200000 in
theorem TotalTurned_walk {v : Value} {so : List Bool} {z cap : Int} (hB : Bools w v so) (hz : 0 ≤ z ∧ z ≤ 255) (hc : -9223372036854775808 ≤ cap ∧ cap ≤ 9223372036854775807) :
  Calls Tryz.prog 6 #[v, .int .u8 z, .int .i64 cap] w fun e w' => e = .returned (.bool true) ∧ Only (fun _ => False) w w' := by
 obtain ⟨ao, ca, rfl, -, -⟩ := hB.shape
 have hfx : Calls Tryz.prog 18 #[] w fun e w' => e = .returned (.bool true) ∧ Only (fun _ => False) w w' := law23_fixed
 have HFx := Lib.hid hfx
 clear hfx
 by_cases c1 : 10 < so.length
 ·have d1 : decide ((10 : Int) < (so.length : Int)) = true := decide_eq_true (by omega)
  clear hB
  go_enter Tryz.func6, Tryz.ntmps6
  go_wp2_with fail
  refine HFx.out.mono ?_
  rintro e w1 ⟨rfl, O1⟩
  go_wp2_with fail
  go_ret
  exact ⟨rfl, O1⟩
 have d1 : decide ((10 : Int) < (so.length : Int)) = false := decide_eq_false (by omega)
 by_cases c2 : so.length = 0
 ·clear hB
  rw [c2]
  rw [c2] at d1
  go_enter Tryz.func6, Tryz.ntmps6
  go_wp2_with fail
  refine HFx.out.mono ?_
  rintro e w1 ⟨rfl, O1⟩
  go_wp2_with fail
  go_ret
  exact ⟨rfl, O1⟩
 obtain ⟨n, hn⟩ : ∃ n, so.length = n := ⟨_, rfl⟩
 have hn1 : 1 ≤ n := by omega
 have hn10 : n ≤ 10 := by omega
 have HN := Lib.hid hn
 rw [hn] at d1 ⊢
 clear c1 c2
 have d2 : ((n : Int) == 0) = false := by simp; omega
 have d2' : decide ((n : Int) = 0) = false := by simp; omega
 by_cases c3 : cap < 1
 ·have d3 : decide (cap < 1) = true := decide_eq_true c3
  clear hB hn
  go_enter Tryz.func6, Tryz.ntmps6
  go_wp2_with fail
  refine HFx.out.mono ?_
  rintro e w1 ⟨rfl, O1⟩
  go_wp2_with fail
  go_ret
  exact ⟨rfl, O1⟩
 have d3 : decide (cap < 1) = false := decide_eq_false c3
 have hcap : 1 ≤ cap := by omega
 obtain ⟨t, ht⟩ : ∃ t : Nat, z = t := ⟨z.toNat, by omega⟩
 subst ht
 have ht2 : t ≤ 255 := by omega
 have ewt : IntKind.i64.wrap (t : Int) = t := IntWalk.i64_in _ (by omega)
 have HB := Lib.hid hB
 have HNT := Lib.hid (atomsNew_any w 5000 (by simp [InI64]) 5000 (by decide))
 clear hB hn HFx c3 hz
 go_enter Tryz.func6, Tryz.ntmps6
 go_wp2_with fail
 refine HNT.out.mono ?_
 rintro e w1 ⟨bt, gt, Vt, rfl, hT1, hm1, O1⟩
 have HNB := Lib.hid (cnfNew_any w1)
 clear HNT
 go_wp2_with fail
 refine HNB.out.mono ?_
 rintro e w2 ⟨bb, gb, Vb, rfl, hB2, hm2, O2⟩
 have HS := Lib.hid (LawX.start hT1 hm1 O1 hB2 hm2 O2)
 clear hT1 hm1 O1 hB2 hm2 O2 HNB
 go_wp2_with fail
 go_loopw [10, 12, 38] (fun v10 v12 vi wr => ∃ k : Nat, vi = .int .i64 k ∧ k ≤ n ∧ LawAt w bt bb k ⟨[], false, false⟩ (Tot.nums 0 k) (Tot.litsOf k so) (Tot.turnedP 0 0 0) v10 v12 nilS wr) (fun _ _ v _ => n - (intOf v).toNat)
 case atStart => exact ⟨0, rfl, Nat.zero_le _, HS.out⟩
 case round =>
  clear HS
  obtain ⟨k, rfl, hk, gt, Vt, gb, Vb, hp, g, H⟩ := hrel
  by_cases ck : k < n
  ·obtain ⟨bl, ol, rfl, _, hcs⟩ := (HB.out.only0 H.on).cells _ _ _ rfl (by rw [HN.out]; omega)
   have q1 := hcs k (by rw [HN.out]; omega)
   have HL := Lib.hid (Tot.litsOf_succ k so)
   have HHelp := Lib.hid (H.help (by omega))
   have ewk : IntKind.i64.wrap ((k : Int) + 1) = (k : Int) + 1 := IntWalk.i64_in _ (by omega)
   have ewn : IntKind.i64.wrap (-((k : Int) + 1)) = -((k : Int) + 1) := IntWalk.i64_in _ (by omega)
   clear hcs H
   obtain ⟨y, hy⟩ : ∃ y, so.getD k false = y := ⟨_, rfl⟩
   rw [hy] at q1 HL
   clear hy
   have hstep : ∀ (l : Int) (W : World) (va vb : Value), l = (if y then (k : Int) + 1 else -((k : Int) + 1)) → LawAt w bt bb (k + 1) ⟨[], false, false⟩ (Tot.nums 0 k ++ [(k : Int) + 1]) (Tot.litsOf k so ++ [l]) (Tot.turnedP 0 0 0) va vb nilS W →
     LawAt w bt bb (k + 1) ⟨[], false, false⟩ (Tot.nums 0 (k + 1)) (Tot.litsOf (k + 1) so) (Tot.turnedP 0 0 0) va vb nilS W := fun l W va vb e h => by
    rw [HL.out, Tot.nums_succ, ← e]; exact h
   have HStep := Lib.hid hstep
   clear hstep HL
   go_wp2_with fail
   refine HHelp.out.mono ?_
   rintro e w3 ⟨rfl, gt, Vt, gb, Vb, hp, g, H⟩
   clear HHelp
   have hsh := H.row1.shape
   rw [List.length_map, Tot.nums_len] at hsh
   obtain ⟨a10, c10, rfl, -, -⟩ := hsh
   have hsh := H.row2.shape
   rw [List.length_map, Tot.litsOf_len] at hsh
   obtain ⟨a12, c12, rfl, -, -⟩ := hsh
   have HR1 := Lib.hid H.row1
   have HH := Lib.hid H
   clear H
   go_wp2_with (at_builtin; go_must (refine Row.app (u := .int .i64 ((k : Int) + 1)) slInt rfl (.tmp 44) (.tmp 46) rfl rfl rfl (cell_new0 _ _ _) rfl (HR1.out.alloc _) (by rw [List.length_map, Tot.nums_len]; omega) (by decide) ?_))
   intro v5 w5 r5 o5
   have h5 := (HH.out.alloc (.cells #[.int .i64 ((k : Int) + 1)] 3)).app1 (x := (k : Int) + 1) (s := w3.heap.size + 1) (by simp) (by simpa using r5) o5
   have hsh := h5.row1.shape
   rw [List.length_map, List.length_append, Tot.nums_len, List.length_singleton] at hsh
   obtain ⟨a5, c5, rfl, -, -⟩ := hsh
   have HR2 := Lib.hid h5.row2
   have HH5 := Lib.hid h5
   clear h5 r5 o5 HH HR1
   cases y with
   | false =>
    go_wp2_with (at_builtin; go_must (refine Row.app (u := .int .i64 (-((k : Int) + 1))) slInt rfl (.tmp 52) (.tmp 54) rfl rfl rfl (cell_new0 _ _ _) rfl (HR2.out.alloc _) (by rw [List.length_map, Tot.litsOf_len]; omega) (by decide) ?_))
    intro v6 w6 r6 o6
    have h6 := (HH5.out.alloc (.cells #[.int .i64 (-((k : Int) + 1))] 3)).app2 (x := -((k : Int) + 1)) (s := w5.heap.size + 1) (by simp) (by simpa using r6) o6
    have h7 := HStep.out (-((k : Int) + 1)) _ _ _ rfl h6.at_
    have H7 := Lib.hid h7
    clear h7 h6 r6 o6 HH5 HR2 HStep
    go_wp2_with fail
    go_roundw
    case rel => exact ⟨k + 1, by first | rfl | go_num, by omega, H7.out⟩
    case measure => simp [intOf] <;> omega
   | true =>
    go_wp2_with (at_builtin; go_must (refine Row.app (u := .int .i64 ((k : Int) + 1)) slInt rfl (.tmp 52) (.tmp 54) rfl rfl rfl (cell_new0 _ _ _) rfl (HR2.out.alloc _) (by rw [List.length_map, Tot.litsOf_len]; omega) (by decide) ?_))
    intro v6 w6 r6 o6
    have h6 := (HH5.out.alloc (.cells #[.int .i64 ((k : Int) + 1)] 3)).app2 (x := (k : Int) + 1) (s := w5.heap.size + 1) (by simp) (by simpa using r6) o6
    have h7 := HStep.out ((k : Int) + 1) _ _ _ rfl h6.at_
    have H7 := Lib.hid h7
    clear h7 h6 r6 o6 HH5 HR2 HStep
    go_wp2_with fail
    go_roundw
    case rel => exact ⟨k + 1, by first | rfl | go_num, by omega, H7.out⟩
    case measure => simp [intOf] <;> omega
  ·obtain rfl : n = k := by omega
   have hpos := H.row1.pos (by rw [List.length_map, Tot.nums_len]; omega)
   rw [List.length_map, Tot.nums_len] at hpos
   obtain ⟨b10, c10, rfl, -, -, -, -⟩ := hpos
   have hsh := H.row2.shape
   rw [List.length_map, Tot.litsOf_len] at hsh
   obtain ⟨a12, c12, rfl, -, -⟩ := hsh
   have HH := Lib.hid H
   clear H
   go_wp2_with fail
   go_loopw [11, 58] (fun v11 vi wr => ∃ j : Nat, vi = .int .i64 j ∧ j ≤ n ∧ LawAt w bt bb n ⟨[], false, false⟩ (Tot.nums 0 n) (Tot.litsOf n so) (Tot.turnedP n t j) (.slice (some ⟨b10, 0, none⟩) n c10) (.slice a12 n c12) v11 wr) (fun _ v _ => n - (intOf v).toNat)
   case atStart => exact ⟨0, rfl, Nat.zero_le _, HH.out.at_⟩
   case round =>
    clear HH
    obtain ⟨j, rfl, hj, gt, Vt, gb, Vb, hp, g, H⟩ := hrel
    by_cases cj : j < n
    ·obtain ⟨m, hm⟩ : ∃ m, (j + t) % n = m := ⟨_, rfl⟩
     have hmn : m < n := by rw [← hm]; exact Nat.mod_lt _ hn1
     have qx : wr.cell? ⟨b10, m, none⟩ = some (.int .i64 ((m : Int) + 1)) := by
      have := H.row1.cellM (f := cI) (0 : Int) (i := m) (by rw [Tot.nums_len]; exact hmn)
      rw [Tot.nums_getD hmn] at this
      rw [this]
      show some (Value.int .i64 ((0 + m + 1 : Nat) : Int)) = _
      rw [show ((0 + m + 1 : Nat) : Int) = (m : Int) + 1 by omega]
     have tm : Int.tmod ((j : Int) + (t : Int)) (n : Int) = (m : Int) := by
      rw [Int.tmod_eq_emod_of_nonneg (by omega), ← hm]
      rfl
     have ews : IntKind.i64.wrap ((j : Int) + (t : Int)) = (j : Int) + (t : Int) := IntWalk.i64_in _ (by omega)
     have ewm : IntKind.i64.wrap (m : Int) = (m : Int) := IntWalk.i64_in _ (by omega)
     have ewj : IntKind.i64.wrap ((j : Int) + 1) = (j : Int) + 1 := IntWalk.i64_in _ (by omega)
     have hsn := Tot.turnedP_succ n t j
     rw [hm] at hsn
     have HSn := Lib.hid hsn
     have hsh := H.row3.shape
     rw [List.length_map, Tot.turnedP_len] at hsh
     obtain ⟨a11, c11, rfl, -, -⟩ := hsh
     have HR3 := Lib.hid H.row3
     have HH := Lib.hid H
     clear H hm hsn
     go_wp2_with (at_builtin; go_must (refine Row.app (u := .int .i64 ((m : Int) + 1)) slInt rfl (.tmp 61) (.tmp 71) rfl rfl rfl (cell_new0 _ _ _) rfl (HR3.out.alloc _) (by rw [List.length_map, Tot.turnedP_len]; omega) (by decide) ?_))
     intro v5 w5 r5 o5
     have h5 := (HH.out.alloc (.cells #[.int .i64 ((m : Int) + 1)] 3)).app3 (x := (m : Int) + 1) (s := wr.heap.size + 1) (by simp) (by simpa using r5) o5
     rw [← HSn.out] at h5
     have H5 := Lib.hid h5.at_
     clear h5 r5 o5 HH HR3
     go_wp2_with fail
     go_roundw
     case rel => exact ⟨j + 1, by first | rfl | go_num, by omega, H5.out⟩
     case measure => simp [intOf] <;> omega
    ·obtain rfl : n = j := by omega
     obtain ⟨r, hr⟩ : ∃ r, Tot.count cap 5000 (Tot.nums 0 n) n false ⟨[], false, false⟩ = r := ⟨_, rfl⟩
     obtain ⟨r2, hr2⟩ : ∃ r2, Tot.count cap 5000 (Tot.turnedP n t n) r.2.1 false r.2.2.2 = r2 := ⟨_, rfl⟩
     obtain ⟨f1, f2, P⟩ := Tot.turned_law hn1 hn10 so hcap t hr hr2
     have hsh := H.row3.shape
     rw [List.length_map, Tot.turnedP_len] at hsh
     obtain ⟨a11, c11, rfl, -, -⟩ := hsh
     have hv1 := Tot.nums_vd (n := n)
     have hv3 := Tot.turnedP_vd (n := n) (t := t) hn1
     have HC1 := Lib.hid (H.count (H.row1.ints (vd_rng (by omega) hv1)) (by rw [Tot.nums_len]; omega) (H.not (by decide) H.row1).1 (H.not (by decide) H.row1).2 (fun z hz => by have := hv1 z hz; unfold Tot.Vd at this; omega) cap hcap hc.2 (Tot.nums_not 0 n) hr f1)
     have HP := Lib.hid P
     have HHr2 := Lib.hid hr2
     have HF2 := Lib.hid f2
     have HV3 := Lib.hid hv3
     clear H P hr hr2 f1 f2 hv1 hv3
     go_wp2_with fail
     refine HC1.out.mono ?_
     rintro e w3 ⟨vp, gt, Vt, gb, Vb, hp, rfl, H, hIp, np1, np2, -, -, -⟩
     obtain ⟨ap, cp, rfl, -, -⟩ := hIp.shape
     have HC2 := Lib.hid (H.count (row := Tot.turnedP n t n) (H.row3.ints (vd_rng (by omega) HV3.out)) (by rw [Tot.turnedP_len]; omega) (H.not (by decide) H.row3).1 (H.not (by decide) H.row3).2 (fun z hz => by have := HV3.out z hz; unfold Tot.Vd at this; omega) cap hcap hc.2 (by
      cases h : (Tot.turnedP n t n).contains 0
      ·rfl
      ·exact absurd rfl (HV3.out 0 (by simpa using h)).1) HHr2.out HF2.out)
     have HIp := Lib.hid hIp
     have HNp1 := Lib.hid np1
     have HNp2 := Lib.hid np2
     clear H HC1 hIp np1 np2
     go_wp2_with fail
     refine HC2.out.mono ?_
     rintro e w4 ⟨vq, gt', Vt', gb', Vb', hp', rfl, H, hIq, -, -, -, -, O4⟩
     have hIp := HIp.out.only' O4 (fun hp b hb hc => hc.elim (fun h => h (HNp1.out hp b hb)) (fun h => h (HNp2.out hp b hb)))
     obtain ⟨aq, cq, rfl, -, -⟩ := hIq.shape
     have hP := HP.out
     clear HP HC2 HIp HNp1 HNp2 HHr2 HF2 HV3 O4
     generalize r.1 = p at *
     generalize r2.1 = q at *
     generalize r2.2.1 = N at *
     obtain ⟨O, hO⟩ : ∃ O, r2.2.2.2.cls = O := ⟨_, rfl⟩
     have hcl := Clauses_any H.bld
     rw [hO] at hP hcl
     have hlen : Calls Tryz.prog 24 #[.pointer (some ⟨bt, 0, none⟩)] w4 fun e w' => e = .returned (.int .i64 (N : Int)) ∧ w' = w4 := by
      have := tabLen_any H.tab
      simpa [Tot.hT] using this
     have hbase := H.row2.ints (vd_rng (N := n) (by omega) (fun z hz => ((Tot.mem_litsOf (by omega)).1 hz).1))
     obtain ⟨m, hm⟩ : ∃ m, p.length = m := ⟨_, rfl⟩
     have hm2 : q.length = m := by have := hP.lp; have := hP.lq; omega
     have hmc : min (n : Int) cap = (m : Int) := by rw [← hm]; exact hP.lp.symm
     have hmb : m ≤ 10 := by have := hP.lp; omega
     have hlb : (Tot.litsOf n so).length ≤ 10 := by rw [Tot.litsOf_len]; exact hn10
     rw [hm, hm2]
     have HM := Lib.hid hm
     have HM2 := Lib.hid hm2
     have HP := Lib.hid hP
     have HCl := Lib.hid hcl
     have HLen := Lib.hid hlen
     have HBase := Lib.hid hbase
     have HIp := Lib.hid hIp
     have HIq := Lib.hid hIq
     have HOn := Lib.hid H.on
     clear H hP hcl hlen hbase hIp hIq hm hm2 hO
     go_wp2_with fail
     refine HLen.out.mono ?_
     rintro e w4b ⟨rfl, rfl⟩
     go_wp2_with fail
     refine HCl.out.mono ?_
     rintro e w5 ⟨vc, us, rfl, hcs, O5⟩
     have hcI := hcs.intsS
     obtain ⟨ac, cc, rfl, -, -⟩ := hcI.shape
     have hN3 := HP.out.N5
     have HNw := Lib.hid (solve_New_any w5 (N : Int) (by unfold InI64; omega) N (by omega) hcI (by have := HP.out.len; omega) (fun c hc => by
      obtain ⟨h1, h2⟩ := HP.out.vd c hc
      have := abs_lenT h1 h2
      omega))
     have HO5 := Lib.hid O5
     clear hcs hcI O5 HCl HLen
     go_wp2_with fail
     refine HNw.out.mono ?_
     rintro e w6 ⟨b, rfl, h6⟩
     have hbs := HBase.out.only0 HO5.out
     obtain ⟨s, hs1, hs2⟩ := HP.out.model
     have HAsk := Lib.hid (count_ask h6 (by omega) HP.out.vd (by have := HP.out.len; omega) hbs (by omega) HP.out.det hs1 hs2)
     clear hbs h6 HNw HBase hs1 hs2
     go_wp2_with fail
     refine HAsk.out.mono ?_
     rintro e w7 ⟨S2, M, met, cs, rfl, hA, -, hSat, hMb, h7⟩
     obtain ⟨vm, rfl, r3, -⟩ := hA
     obtain ⟨am, cm, rfl, -, -⟩ := own_slice r3
     obtain ⟨Bk, hBk⟩ : ∃ Bk, w7.heap.size = Bk := ⟨_, rfl⟩
     obtain ⟨wA, hwA⟩ : ∃ wA, w7.alloc (.cells #[.int .u8 0, nilS, nilS, .int .i64 0] 30) = wA := ⟨_, rfl⟩
     have hbA : wA.heap[Bk]? = some (.cells #[.int .u8 0, nilS, nilS, .int .i64 0] 30 (0, 0)) := by rw [← hwA, ← hBk]; exact heap_alloc_new _ _
     obtain ⟨w8, hw8⟩ : ∃ w8, wA.setRow Bk #[.int .u8 1, .slice am M.length cm, nilS, .int .i64 met] = w8 := ⟨_, rfl⟩
     have hb8 : w8.heap[Bk]? = some (.cells #[.int .u8 1, .slice am M.length cm, nilS, .int .i64 met] 30 (0, 0)) := by rw [← hw8]; exact setRow_heap _ _ _ _ _ _ hbA
     have o8 : Only (fun _ => False) w7 w8 := by rw [← hw8, ← hwA]; exact ((Only.refl _ _).alloc _).trans (only_setRow _ _ _) (fun k hk => .inr (by omega))
     have hon8 : Only (fun _ => False) w4b w8 := (HO5.out.same h7.on).same o8
     have hIp8 := HIp.out.only0 hon8
     have hIq8 := HIq.out.only0 hon8
     have hM8 := (Bools.of_own r3).only0 o8
     have q0 : w8.cell? ⟨Bk, 0, none⟩ = some (.int .u8 1) := by rw [cell_block hb8]; rfl
     have q1 : w8.cell? ⟨Bk, 1, none⟩ = some (.slice am M.length cm) := by rw [cell_block hb8]; rfl
     have hsame := HP.out.same M hSat hMb
     have HSame := Lib.hid hsame
     have HBA := Lib.hid hbA
     have HIp8 := Lib.hid hIp8
     have HIq8 := Lib.hid hIq8
     have HM8 := Lib.hid hM8
     have HOn8 := Lib.hid (HOn.out.same hon8)
     have HQ1 := Lib.hid q1
     clear hsame hbA hb8 o8 hon8 hIp8 hIq8 hM8 r3 hSat hMb h7 HAsk HO5 HIp HIq HOn
     have d8 : decide ((m : Int) = (m : Int)) = true := decide_eq_true rfl
     go_wp2_with ((refine wpList_store_row rfl 30 (.tmp 19) (.tmp 90) rfl Bk #[.int .u8 1, .slice am M.length cm, nilS, .int .i64 met] rfl rfl 30 #[.int .u8 0, nilS, nilS, .int .i64 0] HBA.out (by kernel_rfl) rfl (by first | kernel_rfl | rfl | simp [Value.oneCell']) ?_); rw [hw8])
     go_loopw [111] (fun vi wr => ∃ i : Nat, vi = .int .i64 i ∧ i ≤ m ∧ Only (fun _ => False) w8 wr) (fun v _ => m - (intOf v).toNat)
     case atStart => exact ⟨0, rfl, Nat.zero_le _, Only.refl _ _⟩
     case round =>
      obtain ⟨i, rfl, hi, ho⟩ := hrel
      by_cases ci : i < m
      ·obtain ⟨bp, op, rfl, _, hcp⟩ := (HIp8.out.only0 ho).cells _ _ _ rfl (by rw [HM.out]; omega)
       obtain ⟨bq, oq, rfl, _, hcq⟩ := (HIq8.out.only0 ho).cells _ _ _ rfl (by rw [HM2.out]; omega)
       have qp := hcp i (by rw [HM.out]; exact ci)
       have qq := hcq i (by rw [HM2.out]; exact ci)
       have qm := cell_keep HQ1.out ho (fun f => f)
       have hsm := HSame.out i (by rw [HM.out]; exact ci)
       have hxp := HIp8.out.range' i
       have hxq := HIq8.out.range' i
       generalize p.getD i 0 = xp at *
       generalize q.getD i 0 = xq at *
       have hbm := HM8.out.only0 ho
       obtain ⟨y, hy⟩ : ∃ y, Cnf.soB xp M = y := ⟨_, rfl⟩
       have hsp : ∀ k, Calls Tryz.prog 26 #[.int .i64 xp, .slice am M.length cm] (wr.drewN k) fun e w' => e = .returned (.bool y) ∧ w' = wr.drewN k := fun k => (So_any (hbm.only0 ((Only.refl _ _).drewN k)) xp hxp y hy).mono fun _ _ h => ⟨h.1, h.2.symm⟩
       have hsq : ∀ k, Calls Tryz.prog 26 #[.int .i64 xq, .slice am M.length cm] (wr.drewN k) fun e w' => e = .returned (.bool y) ∧ w' = wr.drewN k := fun k => (So_any (hbm.only0 ((Only.refl _ _).drewN k)) xq hxq y (by rw [← hsm]; exact hy)).mono fun _ _ h => ⟨h.1, h.2.symm⟩
       have HSp := Lib.hid hsp
       have HSq := Lib.hid hsq
       have HO := Lib.hid ho
       have ewi : IntKind.i64.wrap ((i : Int) + 1) = (i : Int) + 1 := IntWalk.i64_in _ (by omega)
       clear hcp hcq hsm hxp hxq hbm hy hsp hsq ho q0 q1
       cases y
       all_goals
        go_wp2_with fail
        go_quiet (first
         | (go_at_call_of 26 (Value.int .i64 xp); exact Calls.quiet_of_same (HSp.out _))
         | (go_at_call_of 26 (Value.int .i64 xq); exact Calls.quiet_of_same (HSq.out _)))
        go_wp2_with fail
        go_roundw
        case rel => exact ⟨i + 1, by first | rfl | go_num, by omega, HO.out.drewN _⟩
        case measure => simp [intOf] <;> omega
      ·obtain rfl : m = i := by omega
       have HO := Lib.hid (HOn8.out.same ho)
       clear ho q0 q1
       go_wp2_with fail
       refine law23_fixed.mono ?_
       rintro e w9 ⟨rfl, O9⟩
       go_wp2_with fail
       go_ret
       exact ⟨rfl, HO.out.same O9⟩
end
end Go.Proofs.YtjedgdamommgeaaGreat

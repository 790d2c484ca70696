/- The walk of cooperlaw23.TotalLess. -/
import Derived.Test.YtjedgdamommgeaaGreatTotU
set_option linter.unusedVariables false
namespace Go.Proofs.YtjedgdamommgeaaGreat
open Go.RowKit
open Cnf (soB)
section
variable {w : World}
theorem adds_snocT (B : Bld) (l : List (List Int)) (c : List Int) : (Tot.adds B l).add c = Tot.adds B (l ++ [c]) := by rw [Tot.adds_app]; rfl
set_option maxRecDepth 100000 in
set_option maxHeartbeats 1600000 in
theorem TotalLess_walk {v : Value} {so : List Bool} {z : Int} (hB : Bools w v so) (hz : 0 ≤ z ∧ z ≤ 255) :
  Calls Tryz.prog 5 #[v, .int .u8 z] w fun e w' => e = .returned (.bool true) ∧ Only (fun _ => False) w w' := by
 obtain ⟨ao, ca, rfl, -, -⟩ := hB.shape
 by_cases c1 : 10 < so.length
 ·have d1 : decide ((10 : Int) < (so.length : Int)) = true := decide_eq_true (by omega)
  clear hB
  go_enter Tryz.func5, Tryz.ntmps5
  go_wp2_with fail
  refine law23_fixed.mono ?_
  rintro e w1 ⟨rfl, O1⟩
  go_wp2_with fail
  go_ret
  exact ⟨rfl, O1⟩
 have d1 : decide ((10 : Int) < (so.length : Int)) = false := decide_eq_false (by omega)
 by_cases c2 : so.length = 0
 ·clear hB
  rw [c2]
  rw [c2] at d1
  go_enter Tryz.func5, Tryz.ntmps5
  go_wp2_with fail
  refine law23_fixed.mono ?_
  rintro e w1 ⟨rfl, O1⟩
  go_wp2_with fail
  go_ret
  exact ⟨rfl, O1⟩
 obtain ⟨n, hn⟩ : ∃ n, so.length = n := ⟨_, rfl⟩
 have hn1 : 1 ≤ n := by omega
 have hn10 : n ≤ 10 := by omega
 have HN := Lib.hid hn
 rw [hn] at d1 ⊢
 clear c1 c2
 have d2 : ((n : Int) == 0) = false := by simp; omega
 have d2' : decide ((n : Int) = 0) = false := by simp; omega
 obtain ⟨t, ht⟩ : ∃ t : Nat, z = t := ⟨z.toNat, by omega⟩
 subst ht
 have ht2 : t ≤ 255 := by omega
 have ewt : IntKind.i64.wrap (t : Int) = t := IntWalk.i64_in _ (by omega)
 obtain ⟨m, hm⟩ : ∃ m, t % (n + 1) = m := ⟨_, rfl⟩
 have hmn : m ≤ n := by have := Nat.mod_lt t (show 0 < n + 1 by omega); omega
 have ewn1 : IntKind.i64.wrap ((n : Int) + 1) = (n : Int) + 1 := IntWalk.i64_in _ (by omega)
 have ewm : IntKind.i64.wrap (m : Int) = (m : Int) := IntWalk.i64_in _ (by omega)
 have tm : Int.tmod (t : Int) ((n : Int) + 1) = (m : Int) := by
  rw [Int.tmod_eq_emod_of_nonneg (by omega), ← hm]
  rfl
 have HB := Lib.hid hB
 have HNT := Lib.hid (atomsNew_any w 5000 (by simp [InI64]) 5000 (by decide))
 clear hB hn hz hm
 go_enter Tryz.func5, Tryz.ntmps5
 go_wp2_with fail
 clear tm ewn1 ewt ewm
 refine HNT.out.mono ?_
 rintro e w1 ⟨bt, gt, Vt, rfl, hT1, hm1, O1⟩
 have HNB := Lib.hid (cnfNew_any w1)
 clear HNT
 go_wp2_with fail
 refine HNB.out.mono ?_
 rintro e w2 ⟨bb, gb, Vb, rfl, hB2, hm2, O2⟩
 have HS := Lib.hid (LawX.start hT1 hm1 O1 hB2 hm2 O2)
 clear hT1 hm1 O1 hB2 hm2 O2 HNB
 go_wp2_with fail
 go_loopw [8, 9, 34] (fun v8 v9 vi wr => ∃ k : Nat, vi = .int .i64 k ∧ k ≤ n ∧ v9 = .int .i64 (Tot.cnt (Tot.sOf so) (Tot.nums 0 k)) ∧ LawAt w bt bb k (Tot.adds ⟨[], false, false⟩ (Tot.unitsOf k so)) (Tot.nums 0 k) (Tot.litsOf 0 []) (Tot.turnedP 0 0 0) v8 nilS nilS wr) (fun _ _ v _ => n - (intOf v).toNat)
 case atStart => exact ⟨0, rfl, Nat.zero_le _, rfl, HS.out⟩
 case round =>
  clear HS
  obtain ⟨k, rfl, hk, rfl, gt, Vt, gb, Vb, hp, g, H⟩ := hrel
  by_cases ck : k < n
  ·obtain ⟨bl, ol, rfl, _, hcs⟩ := (HB.out.only0 H.on).cells _ _ _ rfl (by rw [HN.out]; omega)
   have q1 := hcs k (by rw [HN.out]; omega)
   have hL := Tot.unitsOf_succ k so
   have hC := Tot.cnt_nums_succ k so
   have hcl := Tot.cnt_le (Tot.sOf so) (Tot.nums 0 k)
   rw [Tot.nums_len] at hcl
   have HHelp := Lib.hid (H.help (by omega))
   have ewk : IntKind.i64.wrap ((k : Int) + 1) = (k : Int) + 1 := IntWalk.i64_in _ (by omega)
   have ewn : IntKind.i64.wrap (-((k : Int) + 1)) = -((k : Int) + 1) := IntWalk.i64_in _ (by omega)
   clear hcs H
   obtain ⟨y, hy⟩ : ∃ y, so.getD k false = y := ⟨_, rfl⟩
   rw [hy] at q1 hL hC
   have HL := Lib.hid hL
   have HC := Lib.hid hC
   obtain ⟨cn, hcn⟩ : ∃ cn, Tot.cnt (Tot.sOf so) (Tot.nums 0 k) = cn := ⟨_, rfl⟩
   rw [hcn] at hcl HC
   rw [hcn]
   have ewc : IntKind.i64.wrap ((cn : Int) + 1) = (cn : Int) + 1 := IntWalk.i64_in _ (by omega)
   clear hy hL hC hcn
   go_wp2_with fail
   refine HHelp.out.mono ?_
   rintro e w3 ⟨rfl, gt, Vt, gb, Vb, hp, g, H⟩
   clear HHelp
   have hsh := H.row1.shape
   rw [List.length_map, Tot.nums_len] at hsh
   obtain ⟨a8, c8, rfl, -, -⟩ := hsh
   have HR1 := Lib.hid H.row1
   have HH := Lib.hid H
   clear H
   cases y with
   | false =>
    have HAt := Lib.hid (fun W => (Atom_any (w := W) (-((k : Int) + 1)) (by unfold InI64; omega) (Tr.lit_of (show (-((k : Int) + 1)) ≠ 0 by omega) (by omega)).2).mono fun e w' h => (⟨h.1.trans (by rw [show (((-((k : Int) + 1)).natAbs : Nat) : Int) = (k : Int) + 1 by omega]), h.2⟩ : e = .returned (.int .i64 ((k : Int) + 1)) ∧ W = w'))
    go_wp2_with fail
    refine (HAt.out _).mono ?_
    rintro e w4 ⟨rfl, rfl⟩
    clear HAt
    go_wp2_with (at_builtin; go_must (refine Row.app (u := .int .i64 ((k : Int) + 1)) slInt rfl (.tmp 45) (.tmp 48) rfl rfl rfl (cell_new0 _ _ _) rfl (HR1.out.alloc _) (by rw [List.length_map, Tot.nums_len]; omega) (by decide) ?_))
    intro v5 w5 r5 o5
    have h5 := (HH.out.alloc (.cells #[.int .i64 ((k : Int) + 1)] 3)).app1 (x := (k : Int) + 1) (s := w3.heap.size + 1) (by simp) (by simpa using r5) o5
    have hsh := h5.row1.shape
    rw [List.length_map, List.length_append, Tot.nums_len, List.length_singleton] at hsh
    obtain ⟨a5, c5, rfl, -, -⟩ := hsh
    have hadd := (h5.alloc (.cells #[.int .i64 (-((k : Int) + 1))] 3)).add (v := .slice (some ⟨w5.heap.size, 0, none⟩) 1 1) (xs := [-((k : Int) + 1)]) (ints_mk w5 [-((k : Int) + 1)] 3 _ rfl (fun x hx => by rw [List.mem_singleton.1 hx]; unfold InI64; omega) (by simp)) (by simp)
    have HAdd := Lib.hid hadd
    clear h5 r5 o5 HH HR1 hadd
    go_wp2_with fail
    refine HAdd.out.mono ?_
    rintro e w6 ⟨rfl, h6⟩
    have h7 : LawAt w bt bb (k + 1) (Tot.adds ⟨[], false, false⟩ (Tot.unitsOf (k + 1) so)) (Tot.nums 0 (k + 1)) (Tot.litsOf 0 []) (Tot.turnedP 0 0 0) (.slice a5 (k + 1) c5) nilS nilS w6 := by
     rw [HL.out, Tot.nums_succ, ← adds_snocT]; exact h6
    have HZ := Lib.hid h7
    clear h6 h7 HAdd
    go_wp2_with fail
    go_roundw
    case rel => exact ⟨k + 1, by first | rfl | go_num, by omega, by rw [HC.out]; rfl, HZ.out⟩
    case measure => simp [intOf] <;> omega
   | true =>
    have HAt := Lib.hid (fun W => (Atom_any (w := W) ((k : Int) + 1) (by unfold InI64; omega) (Tr.lit_of (show ((k : Int) + 1) ≠ 0 by omega) (by omega)).2).mono fun e w' h => (⟨h.1.trans (by rw [show ((((k : Int) + 1).natAbs : Nat) : Int) = (k : Int) + 1 by omega]), h.2⟩ : e = .returned (.int .i64 ((k : Int) + 1)) ∧ W = w'))
    go_wp2_with fail
    refine (HAt.out _).mono ?_
    rintro e w4 ⟨rfl, rfl⟩
    clear HAt
    go_wp2_with (at_builtin; go_must (refine Row.app (u := .int .i64 ((k : Int) + 1)) slInt rfl (.tmp 45) (.tmp 48) rfl rfl rfl (cell_new0 _ _ _) rfl (HR1.out.alloc _) (by rw [List.length_map, Tot.nums_len]; omega) (by decide) ?_))
    intro v5 w5 r5 o5
    have h5 := (HH.out.alloc (.cells #[.int .i64 ((k : Int) + 1)] 3)).app1 (x := (k : Int) + 1) (s := w3.heap.size + 1) (by simp) (by simpa using r5) o5
    have hsh := h5.row1.shape
    rw [List.length_map, List.length_append, Tot.nums_len, List.length_singleton] at hsh
    obtain ⟨a5, c5, rfl, -, -⟩ := hsh
    have hadd := (h5.alloc (.cells #[.int .i64 ((k : Int) + 1)] 3)).add (v := .slice (some ⟨w5.heap.size, 0, none⟩) 1 1) (xs := [(k : Int) + 1]) (ints_mk w5 [(k : Int) + 1] 3 _ rfl (fun x hx => by rw [List.mem_singleton.1 hx]; unfold InI64; omega) (by simp)) (by simp)
    have HAdd := Lib.hid hadd
    clear h5 r5 o5 HH HR1 hadd
    go_wp2_with fail
    refine HAdd.out.mono ?_
    rintro e w6 ⟨rfl, h6⟩
    have h7 : LawAt w bt bb (k + 1) (Tot.adds ⟨[], false, false⟩ (Tot.unitsOf (k + 1) so)) (Tot.nums 0 (k + 1)) (Tot.litsOf 0 []) (Tot.turnedP 0 0 0) (.slice a5 (k + 1) c5) nilS nilS w6 := by
     rw [HL.out, Tot.nums_succ, ← adds_snocT]; exact h6
    have HZ := Lib.hid h7
    clear h6 h7 HAdd
    go_wp2_with fail
    go_roundw
    case rel => exact ⟨k + 1, by first | rfl | go_num, by omega, by rw [HC.out]; rfl, HZ.out⟩
    case measure => simp [intOf] <;> omega
  ·obtain rfl : n = k := by omega
   obtain ⟨r, hr⟩ : ∃ r, Tot.count (n : Int) 5000 (Tot.nums 0 n) n false (Tot.adds ⟨[], false, false⟩ (Tot.unitsOf n so)) = r := ⟨_, rfl⟩
   obtain ⟨f1, el, hlit, P⟩ := Tot.less_law hn1 hn10 hmn so hr
   have hsh := H.row1.shape
   rw [List.length_map, Tot.nums_len] at hsh
   obtain ⟨a8, c8, rfl, -, -⟩ := hsh
   have hv1 := Tot.nums_vd (n := n)
   have HC1 := Lib.hid (H.count (H.row1.ints (vd_rng (by omega) hv1)) (by rw [Tot.nums_len]; omega) (H.not (by decide) H.row1).1 (H.not (by decide) H.row1).2 (fun z hz => by have := hv1 z hz; unfold Tot.Vd at this; omega) (n : Int) (by omega) (by omega) (Tot.nums_not 0 n) hr f1)
   have hcl := Tot.cnt_le (Tot.sOf so) (Tot.nums 0 n)
   rw [Tot.nums_len] at hcl
   have HP := Lib.hid P
   have HLit := Lib.hid hlit
   have HEl := Lib.hid el
   obtain ⟨cn, hcn⟩ : ∃ cn, Tot.cnt (Tot.sOf so) (Tot.nums 0 n) = cn := ⟨_, rfl⟩
   rw [hcn] at hcl
   rw [hcn]
   have HCn := Lib.hid hcn
   clear H P hr f1 hv1 hlit el hcn
   go_wp2_with fail
   refine HC1.out.mono ?_
   rintro e w3 ⟨vp, gt, Vt, gb, Vb, hp, rfl, H, hIp, -, -, -, -, -⟩
   obtain ⟨ap, cp, rfl, -, -⟩ := hIp.shape
   rw [HEl.out]
   have HH := Lib.hid H
   have HIp := Lib.hid hIp
   clear H hIp HC1
   go_upto_if 69 with fail
   go_cut [] (fun wx => LawAt w bt bb r.2.1 (if m < n then r.2.2.2.add [-(r.1.getD m 0)] else r.2.2.2) (Tot.nums 0 n) (Tot.litsOf 0 []) (Tot.turnedP 0 0 0) (.slice a8 n c8) nilS nilS wx)
   case first =>
    by_cases cm : m < n
    ·obtain ⟨bl, ol, rfl, _, hcs⟩ := HIp.out.cells _ _ _ rfl (by rw [HEl.out]; omega)
     have qx := hcs m (by rw [HEl.out]; exact cm)
     have hx := HLit.out _ (getD_mem' 0 (show m < r.1.length by rw [HEl.out]; exact cm))
     obtain ⟨x, hxe⟩ : ∃ x, r.1.getD m 0 = x := ⟨_, rfl⟩
     rw [hxe] at qx hx
     unfold Tot.Vd at hx
     have HXe := Lib.hid hxe
     have ewx : IntKind.i64.wrap (-x) = -x := IntWalk.i64_in _ (by omega)
     have hadd := (HH.out.alloc (.cells #[.int .i64 (-x)] 3)).add (v := .slice (some ⟨w3.heap.size, 0, none⟩) 1 1) (xs := [-x]) (ints_mk w3 [-x] 3 _ rfl (fun y hy => by rw [List.mem_singleton.1 hy]; unfold InI64; omega) (by simp)) (by simp)
     have HAdd := Lib.hid hadd
     have dm : decide ((m : Int) < (n : Int)) = true := decide_eq_true (by omega)
     clear hcs hadd hxe hx
     go_wp2_with fail
     refine HAdd.out.mono ?_
     rintro e w4 ⟨rfl, h4⟩
     go_wp2_with fail
     go_meet
     rw [if_pos cm, HXe.out]
     exact h4
    ·have dm : decide ((m : Int) < (n : Int)) = false := decide_eq_false (by omega)
     go_wp2_with fail
     go_meet
     rw [if_neg cm]
     exact HH.out.at_
   case rest =>
    clear HH HIp
    obtain ⟨gt', Vt', gb', Vb', hp', g', H⟩ := hcut
    generalize wc = wx at *
    have hP := HP.out
    obtain ⟨Bf, hBf⟩ : ∃ Bf, (if m < n then r.2.2.2.add [-(r.1.getD m 0)] else r.2.2.2) = Bf := ⟨_, rfl⟩
    rw [hBf] at H hP
    generalize r.2.1 = N at *
    have hcl2 := Clauses_any H.bld
    have hlen : Calls Tryz.prog 24 #[.pointer (some ⟨bt, 0, none⟩)] wx fun e w' => e = .returned (.int .i64 (N : Int)) ∧ w' = wx := by
     have := tabLen_any H.tab
     simpa [Tot.hT] using this
    have HP2 := Lib.hid hP
    have HCl := Lib.hid hcl2
    have HLen := Lib.hid hlen
    have HOn := Lib.hid H.on
    clear H hP hcl2 hlen hBf HP HLit HEl
    go_wp2_with fail
    refine HLen.out.mono ?_
    rintro e w5 ⟨rfl, rfl⟩
    go_wp2_with fail
    refine HCl.out.mono ?_
    rintro e w6 ⟨vc, us, rfl, hcs, O6⟩
    have hcI := hcs.intsS
    obtain ⟨ac, cc, rfl, -, -⟩ := hcI.shape
    have hN3 := HP2.out.N5
    have HNw := Lib.hid (solve_New_any w6 (N : Int) (by unfold InI64; omega) N (by omega) hcI (by have := HP2.out.len; omega) (fun c hc => by
     obtain ⟨h1, h2⟩ := HP2.out.vd c hc
     have := abs_lenT h1 h2
     omega))
    have HO6 := Lib.hid O6
    clear hcs hcI O6 HCl HLen
    go_wp2_with fail
    refine HNw.out.mono ?_
    rintro e w7 ⟨b, rfl, h7⟩
    have HAsk := Lib.hid (less_ask h7 HP2.out)
    clear h7 HNw
    go_wp2_with fail
    refine HAsk.out.mono ?_
    rintro e w8 ⟨st, a1, l1, k1, a2, l2, k2, met, rfl, hst, h8⟩
    rw [HCn.out] at hst
    obtain ⟨Bk, hBk⟩ : ∃ Bk, w8.heap.size = Bk := ⟨_, rfl⟩
    obtain ⟨wA, hwA⟩ : ∃ wA, w8.alloc (.cells #[.int .u8 0, nilS, nilS, .int .i64 0] 30) = wA := ⟨_, rfl⟩
    have hbA : wA.heap[Bk]? = some (.cells #[.int .u8 0, nilS, nilS, .int .i64 0] 30 (0, 0)) := by rw [← hwA, ← hBk]; exact heap_alloc_new _ _
    obtain ⟨w9, hw9⟩ : ∃ w9, wA.setRow Bk #[.int .u8 st, .slice a1 l1 k1, .slice a2 l2 k2, .int .i64 met] = w9 := ⟨_, rfl⟩
    have hb9 : w9.heap[Bk]? = some (.cells #[.int .u8 st, .slice a1 l1 k1, .slice a2 l2 k2, .int .i64 met] 30 (0, 0)) := by rw [← hw9]; exact setRow_heap _ _ _ _ _ _ hbA
    have o9 : Only (fun _ => False) w8 w9 := by rw [← hw9, ← hwA]; exact ((Only.refl _ _).alloc _).trans (only_setRow _ _ _) (fun k hk => .inr (by omega))
    have HO9 := Lib.hid (((HOn.out.same HO6.out).same h8).same o9)
    have HBA := Lib.hid hbA
    have HB9 := Lib.hid hb9
    clear hbA hb9 o9 h8 HAsk HO6 HOn
    go_wp2_with ((refine wpList_store_row rfl 30 (.tmp 14) (.tmp 83) rfl Bk #[.int .u8 st, .slice a1 l1 k1, .slice a2 l2 k2, .int .i64 met] rfl rfl 30 #[.int .u8 0, nilS, nilS, .int .i64 0] HBA.out (by kernel_rfl) rfl (by first | kernel_rfl | rfl | simp [Value.oneCell']) ?_); rw [hw9])
    refine law23_fixed.mono ?_
    rintro e w10 ⟨rfl, O10⟩
    have hb10 := only_block HB9.out O10 (fun f => f)
    have q0 : w10.cell? ⟨Bk, 0, none⟩ = some (.int .u8 st) := by rw [cell_block hb10]; rfl
    have HO10 := Lib.hid (HO9.out.same O10)
    clear hb10 O10
    rcases hst with ⟨rfl, hle⟩ | ⟨hst, hlt⟩
    ·have dl : decide ((cn : Int) ≤ (m : Int)) = true := decide_eq_true (by omega)
     have dl2 : decide (cn ≤ m) = true := decide_eq_true (by omega)
     go_wp2_with fail
     go_ret
     exact ⟨rfl, HO10.out⟩
    ·have dl : decide ((cn : Int) ≤ (m : Int)) = false := decide_eq_false (by omega)
     have dl2 : decide (cn ≤ m) = false := decide_eq_false (by omega)
     rcases hst with rfl | rfl
     all_goals
      go_wp2_with fail
      go_ret
      exact ⟨rfl, HO10.out⟩
end
end Go.Proofs.YtjedgdamommgeaaGreat

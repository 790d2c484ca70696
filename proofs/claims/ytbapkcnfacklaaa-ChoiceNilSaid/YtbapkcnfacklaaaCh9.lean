/- Law 13's example; a nil ground. Printed by gen_ch9.py. -/
import Derived.Test.YtbapkcnfacklaaaCh8
import Derived.Test.YtbapkcnfacklaaaRegion5
set_option linter.unusedVariables false
namespace Go.Proofs.Ytbapkcnfacklaaa
open Go.RowKit
def ex13 : RecD := ⟨[⟨bs [97], 0, [⟨bs [49], false⟩, ⟨bs [50], false⟩], [], [], [], [], []⟩], []⟩
theorem form_a : Cnf.form [-1, 2, 3] = some [-1, 2, 3] := by
 have h : Cnf.sortL [-1, 2, 3] = [-1, 2, 3] := by unfold Cnf.sortL; exact List.mergeSort_of_pairwise (by decide +kernel)
 unfold Cnf.form Cnf.formL; rw [h]; decide +kernel
theorem form_b : Cnf.form [-2, -3] = some [-2, -3] := by
 have h : Cnf.sortL [-2, -3] = [-2, -3] := by unfold Cnf.sortL; exact List.mergeSort_of_pairwise (by decide +kernel)
 unfold Cnf.form Cnf.formL; rw [h]; decide +kernel
theorem form_c : Cnf.form [-2, 1] = some [1, -2] := by
 have h : Cnf.sortL [-2, 1] = [1, -2] := by
  simp [Cnf.sortL, List.mergeSort, List.MergeSort.Internal.splitInTwo, List.splitAt, List.splitAt.go, List.merge]
  rw [Cnf.lt_eq]; decide +kernel
 unfold Cnf.form Cnf.formL; rw [h]; decide +kernel
theorem form_d : Cnf.form [-3, 1] = some [1, -3] := by
 have h : Cnf.sortL [-3, 1] = [1, -3] := by
  simp [Cnf.sortL, List.mergeSort, List.MergeSort.Internal.splitInTwo, List.splitAt, List.splitAt.go, List.merge]
  rw [Cnf.lt_eq]; decide +kernel
 unfold Cnf.form Cnf.formL; rw [h]; decide +kernel
theorem ex13_one : (⟨[], false, false⟩ : Bld).one 1 [2, 3] = ⟨[[-1, 2, 3], [-2, -3], [1, -2], [1, -3]], false, false⟩ := by
 have h1 : (⟨[], false, false⟩ : Bld).one 1 [2, 3] = (⟨[], false, false⟩ : Bld).adds [[-1, 2, 3], [-2, -3], [-2, 1], [-3, 1]] := by
  unfold Bld.one
  rw [if_neg (by decide +kernel)]
  exact congrArg _ (by decide +kernel)
 have w1 : [(-1 : Int), 2, 3].any Cnf.wr = false := by decide +kernel
 have w2 : [(-2 : Int), -3].any Cnf.wr = false := by decide +kernel
 have w3 : [(-2 : Int), 1].any Cnf.wr = false := by decide +kernel
 have w4 : [(-3 : Int), 1].any Cnf.wr = false := by decide +kernel
 rw [h1]
 simp only [Bld.adds, List.foldl_cons, List.foldl_nil, Bld.add, w1, w2, w3, w4, form_a, form_b, form_c, form_d]
 simp
theorem ex13_cls : (TB.choices ((⟨[], 100, 0, false⟩ : Tab), (⟨[], false, false⟩ : Bld)) ex13 [0]).2.cls = [[-1, 2, 3], [-2, -3], [1, -2], [1, -3]] := by
 have h : (TB.choices ((⟨[], 100, 0, false⟩ : Tab), (⟨[], false, false⟩ : Bld)) ex13 [0]).2 = (⟨[], false, false⟩ : Bld).one 1 [2, 3] := rfl
 rw [h, ex13_one]
section
variable {w w' : World} {B : Nat}
theorem take_snocG {α : Type} (xs : List α) (d : α) {k : Nat} (h : k < xs.length) : xs.take (k + 1) = xs.take k ++ [xs.getD k d] := by
 rw [List.take_succ_eq_append_getElem h]
 simp [List.getD_eq_getElem?_getD, h]
set_option maxRecDepth 100000 in
theorem SameAll_any {va vb : Value} {as_ bs_ : List (List Int)} (ha : IntsS w va as_) (hb : IntsS w vb bs_) (res : Bool) (hres : (as_ == bs_) = res) :
  Calls Try.prog 28 #[va, vb] w fun e w' => e = .returned (.bool res) ∧ Only (fun _ => False) w w' := by
 obtain ⟨ao, ca, rfl, g1, g2⟩ := ha.shape
 obtain ⟨bo, cb, rfl, -, -⟩ := hb.shape
 obtain ⟨n, hn⟩ : ∃ n, as_.length = n := ⟨_, rfl⟩
 obtain ⟨m, hm⟩ : ∃ m, bs_.length = m := ⟨_, rfl⟩
 rw [hn] at ha g1 ⊢
 rw [hm] at hb ⊢
 have HA := Lib.hid ha
 have HB := Lib.hid hb
 have HN := Lib.hid hn
 have HM := Lib.hid hm
 have HRes := Lib.hid hres
 clear ha hb hn hm hres
 go_enter Try.func28, Try.ntmps28
 by_cases hl : n = m
 ·subst hl
  go_wp2_with fail
  go_loopw [13] (fun vi wr => Hid (Only (fun _ => False) w wr) ∧ ∃ i : Nat, vi = .int .i64 i ∧ i ≤ n ∧ Hid (as_.take i = bs_.take i)) (fun v _ => n - (RowKit.intOf v).toNat)
  case atStart => exact ⟨show Hid _ from Only.refl _ _, 0, rfl, Nat.zero_le _, show Hid (as_.take 0 = bs_.take 0) from rfl⟩
  case round =>
   obtain ⟨HO, i, rfl, hi, HT⟩ := hrel
   by_cases ci : i < n
   ·obtain ⟨b1, f1, ua, rfl, hb1, hc1, hIa⟩ := (HA.out.only0 HO.out).at (k := i) (by rw [HN.out]; exact ci)
    obtain ⟨b2, f2, ub, rfl, hb2, hc2, hIb⟩ := (HB.out.only0 HO.out).at (k := i) (by rw [HM.out]; exact ci)
    obtain ⟨r, hr⟩ : ∃ r, (as_.getD i [] == bs_.getD i []) = r := ⟨_, rfl⟩
    have HC : Hid (∀ W, Only (fun _ => False) wr W → W.cell? ⟨b1, f1 + i, none⟩ = some ua ∧ W.cell? ⟨b2, f2 + i, none⟩ = some ub) := fun W hW =>
     ⟨by rw [World.cell?_of_block (w := wr) (hW.block b1 hb1 (fun f => f))]; exact hc1, by rw [World.cell?_of_block (w := wr) (hW.block b2 hb2 (fun f => f))]; exact hc2⟩
    have HSm : Hid (∀ W, Only (fun _ => False) wr W → Calls Try.prog 45 #[ua, ub] W fun e w' => e = .returned (.bool r) ∧ Only (fun _ => False) wr w') := fun W hW =>
     (Same_any (hIa.only0 hW) (hIb.only0 hW)).mono fun e w' ⟨he, ho⟩ => ⟨by rw [he, hr], hW.same ho⟩
    have ewi : IntKind.i64.wrap ((i : Int) + 1) = (i : Int) + 1 := by rw [IntKind.wrap_i64]; omega
    have HR := Lib.hid hr
    have o0 : Only (fun _ => False) wr wr.drew := (Only.refl _ _).drew
    have hE : as_.getD i [] = bs_.getD i [] → as_.take (i + 1) = bs_.take (i + 1) := fun h => by
     rw [take_snocG as_ [] (by rw [HN.out]; exact ci), take_snocG bs_ [] (by rw [HM.out]; exact ci), HT.out, h]
    have HE := Lib.hid hE
    clear hE hr hc1 hc2 hIa hIb hb1 hb2
    go_wp2_with fail
    refine wp_region_Q (fun w' => Only (fun _ => False) wr w') (by kernel_rfl) (by kernel_rfl) (by assumption) ?_
    refine wpQ_val (v := ?_) (by rfl) ?_ ?_
    rotate_left
    ·(intro w hSw; (try dsimp only at hSw); obtain ⟨hc1, hc2⟩ := HC.out w hSw; go_simp <;> (try with_reducible rfl))
    try simp only [Act.put, zq4, zq5, zq6]
    refine wpQ_val (v := ?_) (by rfl) ?_ ?_
    rotate_left
    ·(intro w hSw; (try dsimp only at hSw); obtain ⟨hc1, hc2⟩ := HC.out w hSw; go_simp <;> (try with_reducible rfl))
    try simp only [Act.put, zq4, zq5, zq6]
    refine wpQ_val (v := ?_) (by rfl) ?_ ?_
    rotate_left
    ·(intro w hSw; (try dsimp only at hSw); obtain ⟨hc1, hc2⟩ := HC.out w hSw; go_simp <;> (try with_reducible rfl))
    try simp only [Act.put, zq4, zq5, zq6]
    refine wpQ_val (v := ?_) (by rfl) ?_ ?_
    rotate_left
    ·(intro w hSw; (try dsimp only at hSw); obtain ⟨hc1, hc2⟩ := HC.out w hSw; go_simp <;> (try with_reducible rfl))
    try simp only [Act.put, zq4, zq5, zq6]
    refine wpQ_val (v := ?_) (by rfl) ?_ ?_
    rotate_left
    ·(intro w hSw; (try dsimp only at hSw); obtain ⟨hc1, hc2⟩ := HC.out w hSw; go_simp <;> (try with_reducible rfl))
    try simp only [Act.put, zq4, zq5, zq6]
    refine wpQ_val (v := ?_) (by rfl) ?_ ?_
    rotate_left
    ·(intro w hSw; (try dsimp only at hSw); obtain ⟨hc1, hc2⟩ := HC.out w hSw; go_simp <;> (try with_reducible rfl))
    try simp only [Act.put, zq4, zq5, zq6]
    refine wpQ_val (v := ?_) (by rfl) ?_ ?_
    rotate_left
    ·(intro w hSw; (try dsimp only at hSw); obtain ⟨hc1, hc2⟩ := HC.out w hSw; go_simp <;> (try with_reducible rfl))
    try simp only [Act.put, zq4, zq5, zq6]
    refine wpQ_val (v := ?_) (by rfl) ?_ ?_
    rotate_left
    ·(intro w hSw; (try dsimp only at hSw); obtain ⟨hc1, hc2⟩ := HC.out w hSw; go_simp <;> (try with_reducible rfl))
    try simp only [Act.put, zq4, zq5, zq6]
    refine wpQ_call (v := .bool r) (f := 45) (args := #[ua, ub]) (by rfl) ?_ ?_ ?_
    ·(intro w; go_simp <;> (try with_reducible rfl))
    ·(intro w hSw; exact HSm.out w hSw)
    try simp only [Act.put, zq4, zq5, zq6]
    refine wpQ_val (v := ?_) (by rfl) ?_ ?_
    rotate_left
    ·(intro w hSw; (try dsimp only at hSw); obtain ⟨hc1, hc2⟩ := HC.out w hSw; go_simp <;> (try with_reducible rfl))
    try simp only [Act.put, zq4, zq5, zq6]
    refine wpQuiet_nil ?_
    (intro w9 hw9; have HO9 := Lib.hid (HO.out.same hw9); clear hw9)
    cases r with
    | true =>
     have HT2 : Hid (as_.take (i + 1) = bs_.take (i + 1)) := HE.out (by simpa using HR.out)
     go_wp2_with fail
     go_roundw
     case rel => exact ⟨HO9, i + 1, by first | rfl | go_num, by omega, HT2⟩
     case measure => simp [RowKit.intOf] <;> omega
    | false =>
     have hne : res = false := by
      rw [← HRes.out, beq_eq_false_iff_ne]
      intro e
      have := HR.out
      rw [e] at this
      simp at this
     subst hne
     go_wp2_with fail
     go_ret
     exact ⟨rfl, HO9.out⟩
   ·obtain rfl : n = i := by omega
    go_wp2_with fail
    go_ret
    refine ⟨?_, HO.out⟩
    have h1 := HT.out
    rw [List.take_of_length_le (Nat.le_of_eq HN.out), List.take_of_length_le (Nat.le_of_eq HM.out)] at h1
    have h2 : (as_ == bs_) = true := by rw [h1]; simp
    rw [← HRes.out, h2]; rfl
 ·have hne : (as_ == bs_) = false := by
   rw [beq_eq_false_iff_ne]
   intro e
   apply hl
   rw [← HN.out, ← HM.out, e]
  rw [← HRes.out, hne] at *
  go_wp2_with fail
  go_ret
  exact ⟨rfl, Only.refl _ _⟩
end
end Go.Proofs.Ytbapkcnfacklaaa

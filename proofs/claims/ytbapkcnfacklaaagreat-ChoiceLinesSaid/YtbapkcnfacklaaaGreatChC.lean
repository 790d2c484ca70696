/- Ch9 Ch10 Ch11 Ch12 Ch13, in one text. -/
import Derived.Test.YtbapkcnfacklaaaGreatChB
import Derived.Test.YtbapkcnfacklaaaGreatRegion5
set_option linter.unusedVariables false
namespace Go.Proofs.YtbapkcnfacklaaaGreat
open Go.RowKit
def ex13 : RecD := ⟨[⟨bs [97], 0, [⟨bs [49], false⟩, ⟨bs [50], false⟩], [], [], [], [], []⟩], []⟩
theorem form_a : Cnf.form [-1, 2, 3] = some [-1, 2, 3] := by
 have h : Cnf.sortL [-1, 2, 3] = [-1, 2, 3] := by unfold Cnf.sortL; exact List.mergeSort_of_pairwise (by decide +kernel)
 unfold Cnf.form Cnf.formL; rw [h]; decide +kernel
theorem form_b : Cnf.form [-2, -3] = some [-2, -3] := by
 have h : Cnf.sortL [-2, -3] = [-2, -3] := by unfold Cnf.sortL; exact List.mergeSort_of_pairwise (by decide +kernel)
 unfold Cnf.form Cnf.formL; rw [h]; decide +kernel
theorem form_c : Cnf.form [-2, 1] = some [1, -2] := by
 have h : Cnf.sortL [-2, 1] = [1, -2] := by
  simp [Cnf.sortL, List.mergeSort, List.MergeSort.Internal.splitInTwo, List.splitAt, List.splitAt.go, List.merge]
  rw [Cnf.lt_eq]; decide +kernel
 unfold Cnf.form Cnf.formL; rw [h]; decide +kernel
theorem form_d : Cnf.form [-3, 1] = some [1, -3] := by
 have h : Cnf.sortL [-3, 1] = [1, -3] := by
  simp [Cnf.sortL, List.mergeSort, List.MergeSort.Internal.splitInTwo, List.splitAt, List.splitAt.go, List.merge]
  rw [Cnf.lt_eq]; decide +kernel
 unfold Cnf.form Cnf.formL; rw [h]; decide +kernel
theorem ex13_one : (⟨[], false, false⟩ : Bld).one 1 [2, 3] = ⟨[[-1, 2, 3], [-2, -3], [1, -2], [1, -3]], false, false⟩ := by
 have h1 : (⟨[], false, false⟩ : Bld).one 1 [2, 3] = (⟨[], false, false⟩ : Bld).adds [[-1, 2, 3], [-2, -3], [-2, 1], [-3, 1]] := by
  unfold Bld.one
  rw [if_neg (by decide +kernel)]
  exact congrArg _ (by decide +kernel)
 have w1 : [(-1 : Int), 2, 3].any Cnf.wr = false := by decide +kernel
 have w2 : [(-2 : Int), -3].any Cnf.wr = false := by decide +kernel
 have w3 : [(-2 : Int), 1].any Cnf.wr = false := by decide +kernel
 have w4 : [(-3 : Int), 1].any Cnf.wr = false := by decide +kernel
 rw [h1]
 simp only [Bld.adds, List.foldl_cons, List.foldl_nil, Bld.add, w1, w2, w3, w4, form_a, form_b, form_c, form_d]
 simp
theorem ex13_cls : (TB.choices ((⟨[], 100, 0, false⟩ : Tab), (⟨[], false, false⟩ : Bld)) ex13 [0]).2.cls = [[-1, 2, 3], [-2, -3], [1, -2], [1, -3]] := by
 have h : (TB.choices ((⟨[], 100, 0, false⟩ : Tab), (⟨[], false, false⟩ : Bld)) ex13 [0]).2 = (⟨[], false, false⟩ : Bld).one 1 [2, 3] := rfl
 rw [h, ex13_one]
section
variable {w w' : World} {B : Nat}
theorem take_snocG {α : Type} (xs : List α) (d : α) {k : Nat} (h : k < xs.length) : xs.take (k + 1) = xs.take k ++ [xs.getD k d] := by
 rw [List.take_succ_eq_append_getElem h]
 simp [List.getD_eq_getElem?_getD, h]
set_option maxRecDepth 100000 in
theorem SameAll_any {va vb : Value} {as_ bs_ : List (List Int)} (ha : IntsS w va as_) (hb : IntsS w vb bs_) (res : Bool) (hres : (as_ == bs_) = res) :
  Calls Tryz.prog 32 #[va, vb] w fun e w' => e = .returned (.bool res) ∧ Only (fun _ => False) w w' := by
 obtain ⟨ao, ca, rfl, g1, g2⟩ := ha.shape
 obtain ⟨bo, cb, rfl, -, -⟩ := hb.shape
 obtain ⟨n, hn⟩ : ∃ n, as_.length = n := ⟨_, rfl⟩
 obtain ⟨m, hm⟩ : ∃ m, bs_.length = m := ⟨_, rfl⟩
 rw [hn] at ha g1 ⊢
 rw [hm] at hb ⊢
 have HA := Lib.hid ha
 have HB := Lib.hid hb
 have HN := Lib.hid hn
 have HM := Lib.hid hm
 have HRes := Lib.hid hres
 clear ha hb hn hm hres
 go_enter Tryz.func32, Tryz.ntmps32
 by_cases hl : n = m
 ·subst hl
  go_wp2_with fail
  go_loopw [13] (fun vi wr => Hid (Only (fun _ => False) w wr) ∧ ∃ i : Nat, vi = .int .i64 i ∧ i ≤ n ∧ Hid (as_.take i = bs_.take i)) (fun v _ => n - (RowKit.intOf v).toNat)
  case atStart => exact ⟨show Hid _ from Only.refl _ _, 0, rfl, Nat.zero_le _, show Hid (as_.take 0 = bs_.take 0) from rfl⟩
  case round =>
   obtain ⟨HO, i, rfl, hi, HT⟩ := hrel
   by_cases ci : i < n
   ·obtain ⟨b1, f1, ua, rfl, hb1, hc1, hIa⟩ := (HA.out.only0 HO.out).at (k := i) (by rw [HN.out]; exact ci)
    obtain ⟨b2, f2, ub, rfl, hb2, hc2, hIb⟩ := (HB.out.only0 HO.out).at (k := i) (by rw [HM.out]; exact ci)
    obtain ⟨r, hr⟩ : ∃ r, (as_.getD i [] == bs_.getD i []) = r := ⟨_, rfl⟩
    have HC : Hid (∀ W, Only (fun _ => False) wr W → W.cell? ⟨b1, f1 + i, none⟩ = some ua ∧ W.cell? ⟨b2, f2 + i, none⟩ = some ub) := fun W hW =>
     ⟨by rw [World.cell?_of_block (w := wr) (hW.block b1 hb1 (fun f => f))]; exact hc1, by rw [World.cell?_of_block (w := wr) (hW.block b2 hb2 (fun f => f))]; exact hc2⟩
    have HSm : Hid (∀ W, Only (fun _ => False) wr W → Calls Tryz.prog 25 #[ua, ub] W fun e w' => e = .returned (.bool r) ∧ Only (fun _ => False) wr w') := fun W hW =>
     (Same_any (hIa.only0 hW) (hIb.only0 hW)).mono fun e w' ⟨he, ho⟩ => ⟨by rw [he, hr], hW.same ho⟩
    have ewi : IntKind.i64.wrap ((i : Int) + 1) = (i : Int) + 1 := by rw [IntKind.wrap_i64]; omega
    have HR := Lib.hid hr
    have o0 : Only (fun _ => False) wr wr.drew := (Only.refl _ _).drew
    have hE : as_.getD i [] = bs_.getD i [] → as_.take (i + 1) = bs_.take (i + 1) := fun h => by
     rw [take_snocG as_ [] (by rw [HN.out]; exact ci), take_snocG bs_ [] (by rw [HM.out]; exact ci), HT.out, h]
    have HE := Lib.hid hE
    clear hE hr hc1 hc2 hIa hIb hb1 hb2
    go_wp2_with fail
    refine wp_region_Q (fun w' => Only (fun _ => False) wr w') (by kernel_rfl) (by kernel_rfl) (by assumption) ?_
    refine wpQ_val (v := ?_) (by rfl) ?_ ?_
    rotate_left
    ·(intro w hSw; (try dsimp only at hSw); obtain ⟨hc1, hc2⟩ := HC.out w hSw; go_simp <;> (try with_reducible rfl))
    try simp only [Act.put, zq4, zq5, zq6]
    refine wpQ_val (v := ?_) (by rfl) ?_ ?_
    rotate_left
    ·(intro w hSw; (try dsimp only at hSw); obtain ⟨hc1, hc2⟩ := HC.out w hSw; go_simp <;> (try with_reducible rfl))
    try simp only [Act.put, zq4, zq5, zq6]
    refine wpQ_val (v := ?_) (by rfl) ?_ ?_
    rotate_left
    ·(intro w hSw; (try dsimp only at hSw); obtain ⟨hc1, hc2⟩ := HC.out w hSw; go_simp <;> (try with_reducible rfl))
    try simp only [Act.put, zq4, zq5, zq6]
    refine wpQ_val (v := ?_) (by rfl) ?_ ?_
    rotate_left
    ·(intro w hSw; (try dsimp only at hSw); obtain ⟨hc1, hc2⟩ := HC.out w hSw; go_simp <;> (try with_reducible rfl))
    try simp only [Act.put, zq4, zq5, zq6]
    refine wpQ_val (v := ?_) (by rfl) ?_ ?_
    rotate_left
    ·(intro w hSw; (try dsimp only at hSw); obtain ⟨hc1, hc2⟩ := HC.out w hSw; go_simp <;> (try with_reducible rfl))
    try simp only [Act.put, zq4, zq5, zq6]
    refine wpQ_val (v := ?_) (by rfl) ?_ ?_
    rotate_left
    ·(intro w hSw; (try dsimp only at hSw); obtain ⟨hc1, hc2⟩ := HC.out w hSw; go_simp <;> (try with_reducible rfl))
    try simp only [Act.put, zq4, zq5, zq6]
    refine wpQ_val (v := ?_) (by rfl) ?_ ?_
    rotate_left
    ·(intro w hSw; (try dsimp only at hSw); obtain ⟨hc1, hc2⟩ := HC.out w hSw; go_simp <;> (try with_reducible rfl))
    try simp only [Act.put, zq4, zq5, zq6]
    refine wpQ_val (v := ?_) (by rfl) ?_ ?_
    rotate_left
    ·(intro w hSw; (try dsimp only at hSw); obtain ⟨hc1, hc2⟩ := HC.out w hSw; go_simp <;> (try with_reducible rfl))
    try simp only [Act.put, zq4, zq5, zq6]
    refine wpQ_call (v := .bool r) (f := 25) (args := #[ua, ub]) (by rfl) ?_ ?_ ?_
    ·(intro w; go_simp <;> (try with_reducible rfl))
    ·(intro w hSw; exact HSm.out w hSw)
    try simp only [Act.put, zq4, zq5, zq6]
    refine wpQ_val (v := ?_) (by rfl) ?_ ?_
    rotate_left
    ·(intro w hSw; (try dsimp only at hSw); obtain ⟨hc1, hc2⟩ := HC.out w hSw; go_simp <;> (try with_reducible rfl))
    try simp only [Act.put, zq4, zq5, zq6]
    refine wpQuiet_nil ?_
    (intro w9 hw9; have HO9 := Lib.hid (HO.out.same hw9); clear hw9)
    cases r with
    | true =>
     have HT2 : Hid (as_.take (i + 1) = bs_.take (i + 1)) := HE.out (by simpa using HR.out)
     go_wp2_with fail
     go_roundw
     case rel => exact ⟨HO9, i + 1, by first | rfl | go_num, by omega, HT2⟩
     case measure => simp [RowKit.intOf] <;> omega
    | false =>
     have hne : res = false := by
      rw [← HRes.out, beq_eq_false_iff_ne]
      intro e
      have := HR.out
      rw [e] at this
      simp at this
     subst hne
     go_wp2_with fail
     go_ret
     exact ⟨rfl, HO9.out⟩
   ·obtain rfl : n = i := by omega
    go_wp2_with fail
    go_ret
    refine ⟨?_, HO.out⟩
    have h1 := HT.out
    rw [List.take_of_length_le (Nat.le_of_eq HN.out), List.take_of_length_le (Nat.le_of_eq HM.out)] at h1
    have h2 : (as_ == bs_) = true := by rw [h1]; simp
    rw [← HRes.out, h2]; rfl
 ·have hne : (as_ == bs_) = false := by
   rw [beq_eq_false_iff_ne]
   intro e
   apply hl
   rw [← HN.out, ← HM.out, e]
  rw [← HRes.out, hne] at *
  go_wp2_with fail
  go_ret
  exact ⟨rfl, Only.refl _ _⟩
end
section
variable {w w' : World} {B : Nat}
def req13 : ReqD := ⟨[⟨⟨bs [97], [⟨bs [], bs []⟩], []⟩, 0⟩]⟩
theorem ex13_ta : ex13.targets (bs [97]) = [0] := by decide
theorem ex13_closure : ex13.closure req13.names = [0] := by
 have h0 : ex13.Reach req13.names 0 := .root (s := bs [97]) (by simp [ReqD.names, req13]) (by rw [ex13_ta]; simp)
 unfold RecD.closure
 rw [show List.range ex13.packs.length = [0] from rfl]
 simp [h0]
theorem ints_block {b : Nat} {xs : List Int} (h : w.heap[b]? = some (.cells (xs.map cI).toArray 3)) (hx : xs.all (fun x => decide (-1000 ≤ x ∧ x ≤ 1000)) = true ∧ xs.length ≤ 1000) : Ints w (.slice (some ⟨b, 0, none⟩) xs.length xs.length) xs := by
 refine Ints.of_own ⟨by simp, .inr ⟨b, xs.length, _, rfl, Nat.zero_le _, h, Nat.le_refl _, by unfold maxLen; omega, by simp, ?_⟩⟩ fun z hz => ?_
 ·rw [Nat.mul_one]
  simp [List.take_of_length_le]
 ·have := of_decide_eq_true (List.all_eq_true.1 hx.1 z hz)
  exact ⟨by omega, by omega⟩
set_option maxRecDepth 100000 in
set_option maxHeartbeats 2000000 in
theorem fixed13_any (w : World) : Calls Tryz.prog 8 #[] w fun e w' => e = .returned (.bool true) ∧ Only (fun _ => False) w w' := by
 go_enter Tryz.func8, Tryz.ntmps8
 go_wp2_with fail
 generalize hW : World.alloc _ _ = W
 have hsz : W.heap.size = w.heap.size + 5 := by rw [← hW]; simp
 have b0 : W.heap[w.heap.size]? = some (.cells #[.string (bs [49]), .bool false, .string (bs [50]), .bool false] 84) := by rw [← hW]; exact alloc_block (alloc_block (alloc_block (alloc_block (alloc_at rfl) _) _) _) _
 have b1 : W.heap[w.heap.size + 1]? = some (.cells #[.string (bs [97]), .int .i64 0, .slice (some ⟨w.heap.size, 0, none⟩) 2 2, nilS, nilS, nilS, nilS, nilS] 43) := by rw [← hW]; exact alloc_block (alloc_block (alloc_block (alloc_at (by simp)) _) _) _
 have b3 : W.heap[w.heap.size + 3]? = some (.cells #[.string (bs []), .string (bs [])] 86) := by rw [← hW]; exact alloc_block (alloc_at (by simp)) _
 have b4 : W.heap[w.heap.size + 4]? = some (.cells #[.string (bs [97]), .slice (some ⟨w.heap.size + 3, 0, none⟩) 1 1, nilS, .int .i64 0] 51) := by rw [← hW]; exact alloc_at (by simp)
 have hO : Only (fun _ => False) w W := by rw [← hW]; exact (((((Only.refl _ _).alloc _).alloc _).alloc _).alloc _).alloc _
 have hrec : RecC W.heap.size W [.slice (some ⟨w.heap.size + 1, 0, none⟩) 1 1, nilS] ex13 := by
  have hrel : RowT 2 RelC W.heap.size W (.slice (some ⟨w.heap.size, 0, none⟩) 2 2) [⟨bs [49], false⟩, ⟨bs [50], false⟩] :=
   RowT.lit b0 (by omega) (Nat.le_refl _) rfl (by decide) (by decide) fun i hi => by
    match i, hi with
    | 0, _ => exact ⟨[.string (bs [49]), .bool false], rfl, rfl, rfl, ok10 _ (by decide)⟩
    | 1, _ => exact ⟨[.string (bs [50]), .bool false], rfl, rfl, rfl, ok10 _ (by decide)⟩
  refine ⟨_, _, rfl, RowT.lit b1 (by omega) (Nat.le_refl _) rfl (by decide) (by decide) fun i hi => ?_, RowT.nilRow⟩
  match i, hi with
  | 0, _ => exact ⟨[.string (bs [97]), .int .i64 0, .slice (some ⟨w.heap.size, 0, none⟩) 2 2, nilS, nilS, nilS, nilS, nilS], rfl, rfl, _, _, _, _, _, _, rfl, ok10 _ (by decide), z64, hrel, RowT.nilRow, RowT.nilRow, RowT.nilRow, RowT.nilRow, RowT.nilRow⟩
 have hreq : ReqC W.heap.size W [.slice (some ⟨w.heap.size + 4, 0, none⟩) 1 1] req13 := by
  have hsp : RowT 2 SpanC W.heap.size W (.slice (some ⟨w.heap.size + 3, 0, none⟩) 1 1) [⟨bs [], bs []⟩] :=
   RowT.lit b3 (by omega) (Nat.le_refl _) rfl (by decide) (by decide) fun i hi => by
    match i, hi with
    | 0, _ => exact ⟨[.string (bs []), .string (bs [])], rfl, rfl, rfl, ok10 _ (by decide), ok10 _ (by decide)⟩
  refine ⟨_, rfl, RowT.lit b4 (by omega) (Nat.le_refl _) rfl (by decide) (by decide) fun i hi => ?_⟩
  match i, hi with
  | 0, _ => exact ⟨[.string (bs [97]), .slice (some ⟨w.heap.size + 3, 0, none⟩) 1 1, nilS, .int .i64 0], rfl, rfl, [.string (bs [97]), .slice (some ⟨w.heap.size + 3, 0, none⟩) 1 1, nilS], rfl, ⟨_, _, rfl, ok10 _ (by decide), hsp, RowT.nilRow⟩, z64⟩
 clear hW b0 b1 b3 b4
 have hs : SmallRec ex13 := ⟨by decide, by decide, fun p hp => by
  simp only [ex13, List.mem_cons, List.not_mem_nil, or_false] at hp
  rcases hp with rfl
  exact ⟨by decide, by decide, by decide, by decide, by decide⟩⟩
 refine (New_gr hrec hreq (Nat.le_refl _) hs (by decide) 100 ⟨by decide, by decide⟩ 100 (by decide)).mono ?_
 rintro e w1 ⟨c, bt, bb, gt, gb, G, Bs, rfl, HG, hx, -, hl, -, hBs, -, hWB, -, hBw, O1⟩
 rw [ex13_closure] at hl
 have hmid : MidRec ex13 := ⟨by decide, by decide, by decide, by decide⟩
 have HC := Lib.hid (Choices_gr HG hx hl (by decide) hmid hBs hBw (by decide))
 have HO1 := Lib.hid (hO.same O1)
 have HFr : Hid (∀ k, k < w.heap.size → ¬ (Mine gt k ∨ Mine gb k)) := fun k hk hm => by have := hBs k hm; omega
 clear hrec hreq hx hl hBs hBw O1 hO HG hs hmid hWB
 go_wp2_with fail
 refine HC.out.mono ?_
 rintro e w2 ⟨rfl, gt2, gb2, HG2, -, -, O2⟩
 have HO2 : Hid (Only (fun _ => False) w w2) := HO1.out.trans O2 fun k hk => .inr (by
  rcases Nat.lt_or_ge k w.heap.size with h | h
  ·exact absurd hk (HFr.out k h)
  ·exact h)
 have HBu := Lib.hid (Builder_gr HG2)
 obtain ⟨Vb, hVb⟩ := HG2.bld
 have HCl := Lib.hid (Clauses_any hVb)
 rw [ex13_cls] at HCl
 clear HG2 hVb O2
 go_wp2_with fail
 refine HBu.out.mono ?_
 rintro e w3 ⟨rfl, rfl⟩
 go_wp2_with fail
 refine HCl.out.mono ?_
 rintro e w4 ⟨v, us, rfl, hOw, O4⟩
 have HI := Lib.hid hOw.intsS
 have HO4 := Lib.hid (HO2.out.same O4)
 obtain ⟨av, cv, rfl, -, -⟩ := hOw.intsS.shape
 clear hOw O4 HCl HBu HC
 go_wp2_with fail
 generalize hW2 : World.alloc _ _ = W2
 have d0 : W2.heap[w4.heap.size]? = some (.cells #[cI (-1), cI 2, cI 3] 3) := by rw [← hW2]; exact alloc_block (alloc_block (alloc_block (alloc_block (alloc_at rfl) _) _) _) _
 have d1 : W2.heap[w4.heap.size + 1]? = some (.cells #[cI (-2), cI (-3)] 3) := by rw [← hW2]; exact alloc_block (alloc_block (alloc_block (alloc_at (by simp)) _) _) _
 have d2 : W2.heap[w4.heap.size + 1 + 1]? = some (.cells #[cI 1, cI (-2)] 3) := by rw [← hW2]; exact alloc_block (alloc_block (alloc_at (by simp)) _) _
 have d3 : W2.heap[w4.heap.size + 1 + 1 + 1]? = some (.cells #[cI 1, cI (-3)] 3) := by rw [← hW2]; exact alloc_block (alloc_at (by simp)) _
 have d4 : W2.heap[w4.heap.size + 1 + 1 + 1 + 1]? = some (.cells #[.slice (some ⟨w4.heap.size, 0, none⟩) 3 3, .slice (some ⟨w4.heap.size + 1, 0, none⟩) 2 2, .slice (some ⟨w4.heap.size + 1 + 1, 0, none⟩) 2 2, .slice (some ⟨w4.heap.size + 1 + 1 + 1, 0, none⟩) 2 2] 35) := by rw [← hW2]; exact alloc_at (by simp)
 have oW : Only (fun _ => False) w4 W2 := by rw [← hW2]; exact (((((Only.refl _ _).alloc _).alloc _).alloc _).alloc _).alloc _
 have hlit : IntsS W2 (.slice (some ⟨w4.heap.size + 1 + 1 + 1 + 1, 0, none⟩) 4 4) [[-1, 2, 3], [-2, -3], [1, -2], [1, -3]] := by
  refine ⟨[.slice (some ⟨w4.heap.size, 0, none⟩) 3 3, .slice (some ⟨w4.heap.size + 1, 0, none⟩) 2 2, .slice (some ⟨w4.heap.size + 1 + 1, 0, none⟩) 2 2, .slice (some ⟨w4.heap.size + 1 + 1 + 1, 0, none⟩) 2 2], Cells.of_own (t := 35) ⟨rfl, .inr ⟨_, 4, _, rfl, Nat.zero_le _, d4, Nat.le_refl _, by unfold maxLen; omega, rfl, rfl⟩⟩, rfl, fun i hi => ?_⟩
  match i, hi with
  | 0, _ => exact ints_block (xs := [-1, 2, 3]) d0 (by decide)
  | 1, _ => exact ints_block (xs := [-2, -3]) d1 (by decide)
  | 2, _ => exact ints_block (xs := [1, -2]) d2 (by decide)
  | 3, _ => exact ints_block (xs := [1, -3]) d3 (by decide)
 clear hW2 d0 d1 d2 d3 d4
 refine (SameAll_any (HI.out.only0 oW) hlit true (by decide)).mono ?_
 rintro e w5 ⟨rfl, O5⟩
 have HO5 := Lib.hid ((HO4.out.same oW).same O5)
 clear oW O5 hlit
 go_wp2_with fail
 go_ret
 exact ⟨rfl, HO5.out⟩
end
theorem flatR_of : ∀ (L : List RuleD) (F : Nat → List Value), (∀ i (hi : i < L.length), F i = L[i].cells) → (List.range L.length).flatMap F = flatR L
 | [], _, _ => rfl
 | a :: r, F, h => by
  rw [List.length_cons, List.range_succ_eq_map, List.flatMap_cons, List.flatMap_map]
  have h0 := h 0 (by simp)
  have hr := flatR_of r (fun i => F (i + 1)) fun i hi => by
   have := h (i + 1) (by simpa using hi)
   simpa using this
  rw [hr, h0]
  rfl
section
variable {w w' : World} {B : Nat}
set_option maxRecDepth 100000 in
theorem CloneR_any {v : Value} {L : List RuleD} (h : RowT 4 RuleC B w v L) (hn : L.length ≤ 1000000) :
  Calls Tryz.prog 37 #[v] w fun e w' => ∃ v', e = .returned v' ∧ RuRow w w' v' L ∧ Only (fun _ => False) w w' := by
 obtain ⟨ao, cap, rfl, g1, g2⟩ := h.shape
 cases ao with
 | none =>
  obtain ⟨hz, rfl⟩ := h.nil _ _ rfl
  obtain rfl : L = [] := List.eq_nil_of_length_eq_zero hz
  clear h
  have eqn := fun (W : World) => Go.Lib.run_eql_slice_nil (P := Tryz.prog) W 31 45 none 0 0 0 0 Tryz.underlying31
  go_enter Tryz.func37, Tryz.ntmps37
  go_wp2_with fail
  go_ret
  exact ⟨_, rfl, RuRow.nil _ _, Only.refl _ _⟩
 | some ad =>
  obtain ⟨F, hF, hl, hc⟩ := h.flat (by decide)
  have hfl := flatR_of L F fun i hi => (hF i hi).2.1
  rw [hfl] at hl hc
  obtain ⟨n, hnn⟩ : ∃ n, L.length = n := ⟨_, rfl⟩
  have HN := Lib.hid hnn
  rw [hnn] at hn hl g1 ⊢
  have HL := Lib.hid hl
  have HNo := Lib.hid (show ∀ u ∈ flatR L, u.oneCell' = true from fun u hu => by
   unfold flatR at hu
   obtain ⟨x, -, hx⟩ := List.mem_flatMap.1 hu
   exact x.one u hx)
  have HC : Hid (∀ W, Only (fun _ => False) w W → ∀ j u, (flatR L)[j]? = some u → W.cell? (ad.add j) = some u) := fun W ho j u hj => by
   have h1 := hc ad rfl j u hj
   have hb := World.block_lt_of_cell? _ _ h1
   rw [World.cell?_of_block (w := w) (ho.block _ hb (fun f => f))]
   exact h1
  clear h hnn hF hl hc hfl
  have eqn := fun (W : World) => Go.Lib.run_eql_slice_nil (P := Tryz.prog) W 31 45 (some ad) n cap 0 0 Tryz.underlying31
  go_enter Tryz.func37, Tryz.ntmps37
  go_wp2_with (at_builtin; go_must (refine wpA slRule rfl (.tmp 5) (.tmp 6) rfl (n := 0) (xs := []) rfl (show World.ownsRow _ 0 45 4 (.slice (some ⟨w.heap.size, 0, none⟩) 0 0) 0 [] from ⟨rfl, .inr ⟨w.heap.size, 0, #[], rfl, Nat.zero_le _, heap_alloc_new _ _, Nat.le_refl _, by decide, rfl, rfl⟩⟩) (ad := ad) (m := n) (c := cap) (news := flatR L) rfl HL.out (HC.out _ ((Only.refl _ _).alloc _)) HNo.out (by unfold maxLen; omega) (by omega) ?_))
  intro v' w1 r1 r2 r3 r4
  have hres : RuRow w w1 v' L ∧ Only (fun _ => False) w w1 := by
   refine ⟨⟨?_, fun k hk => ?_⟩, ?_⟩
   ·rw [HN.out]
    simpa using r1
   ·rcases r3 k hk with h | h
    ·simp [Value.ownBlock] at h; omega
    ·omega
   ·exact ((Only.refl (fun _ => False) w).alloc _).grown r2 fun k hk => .inr (by simp [Value.ownBlock] at hk; omega)
  have HRes := Lib.hid hres
  obtain ⟨ao, cap', rfl, -, -⟩ := own_slice r1
  clear r1 r2 r3 r4 hres
  go_wp2_with fail
  go_ret
  exact ⟨_, rfl, HRes.out⟩
end
section
variable {w : World} {gt gb : Tag} {c bt bb : Nat} {G : GrV} {T : Tab} {B : Bld} {Bs : Nat}
theorem Rules_gr (H : GrAt w gt gb c bt bb G T B) {l : List RuleD} (hl : RowT 4 RuleC Bs w G.r l) (hn : l.length ≤ 1000000) : Calls Tryz.prog 10 #[.pointer (some ⟨c, 0, none⟩)] w fun e w' => ∃ v', e = .returned v' ∧ RuRow w w' v' l ∧ Only (fun _ => False) w w' := by
 have q1 : w.cell? ⟨c, 4, none⟩ = some G.r := by rw [cell_block H.blk]; rfl
 have hC := Lib.hid (CloneR_any hl hn)
 obtain ⟨ao, cap, e, -, -⟩ := hl.shape
 rw [e] at q1 hC
 clear hl
 go_enter Tryz.func10, Tryz.ntmps10
 go_wp2_with fail
 refine hC.out.mono ?_
 rintro e w1 ⟨v, rfl, r1, r2⟩
 have HR := Lib.hid (And.intro r1 r2)
 obtain ⟨av, cv, rfl, -, -⟩ := own_slice r1.1
 clear r1 r2
 go_wp2_with fail
 go_ret
 exact ⟨_, rfl, HR.out⟩
end
end Go.Proofs.YtbapkcnfacklaaaGreat

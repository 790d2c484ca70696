/- NeedsRanks: the ranks of any release, and of any package that provides a name, and what a name may be, are the document's. Printed by gen_nkl1.py. -/
import Derived.Test.YtmlfchjompfmaaaGreatDoorNkR1
import Derived.Test.YtmlfchjompfmaaaGreatDoorNdA
import Derived.Test.YtmlfchjompfmaaaGreatDoorNd6
import Derived.Test.YtmlfchjompfmaaaGreatDoorWv9
import Derived.Test.YtmlfchjompfmaaaGreatDoorRegs
import Derived.Test.YtmlfchjompfmaaaGreatDoorRegion5
set_option linter.unusedVariables false
namespace Go.Proofs.YtmlfchjompfmaaaGreatDoor
open Go.RowKit
section
variable {P : Program} {ops : Array Oper} {C : World → Prop} {Q : Act → Prop} {a : Act} {o : Oper} {rest : List Oper}
theorem wpQ_load_mid {ty : TypeId} {x : Operand} {b off : Nat} {cs : List Value} {d : TypeDesc} (hw : Region.wanted o (yielded ops a.tmps) = true) (ho : o.op = .load ty x) (hx : a.eval x = .pointer (some ⟨b, off, none⟩)) (hc : ∀ w, C w → w.rangeAt b off cs)
  (hu : P.underlying ty = some d) (hd : d.isRow = true) (hi : (P.info? ty).map (·.size) = some cs.length) (h : wpQuiet P ops C Q rest (a.put o.dst (.agg cs.toArray))) : wpQuiet P ops C Q (o :: rest) a :=
 wpQ_val hw (fun w hC => by
  unfold execOp
  simp only [ho, hx, Instr.loadAt, Instr.sureAddr, Sem.run_bind, Sem.run_pure, Result.andThen_ok, run_loadVar_mid w b off ty cs d (hc w hC) hu hd hi]) h
end
section
variable {w w' : World} {B : Nat}
set_option maxRecDepth 100000 in
set_option maxHeartbeats 2000000 in
theorem Same10_x {v1 v2 : Value} {l : List Nat} (h1 : w.ownsRow 0 3 1 v1 l.length (natsV l)) (h2 : w.ownsRow 0 3 1 v2 l.length (natsV l)) :
  Calls Tryz.prog 11 #[v1, v2] w (fun e w' => e = .returned (.bool true) ∧ Only (fun _ => False) w w') := by
 obtain ⟨a1, c1, rfl, k1, k1'⟩ := own_slice h1
 obtain ⟨a2, c2, rfl, k2, k2'⟩ := own_slice h2
 obtain ⟨n, hn⟩ : ∃ n, l.length = n := ⟨_, rfl⟩
 rw [hn] at h1 h2 k1 k2 ⊢
 have HN := Lib.hid hn
 have H1 := Lib.hid h1
 have H2 := Lib.hid h2
 have hne : ((n : Int) == (n : Int)) = true := beq_self_eq_true _
 unfold maxLen at k1' k2'
 clear h1 h2 hn
 go_enter Tryz.func11, Tryz.ntmps11
 go_wp2_with fail
 go_loopw [5, 13] (fun _ vi wr => Hid (Only (fun _ => False) w wr) ∧ ∃ i : Nat, vi = .int .i64 i ∧ i ≤ n) (fun _ v _ => n - (RowKit.intOf v).toNat)
 case atStart => exact ⟨Only.refl _ _, 0, rfl, Nat.zero_le _⟩
 case round =>
  obtain ⟨HO, i, rfl, hi⟩ := hrel
  by_cases ci : i < n
  ·have ewi : IntKind.i64.wrap ((i : Int) + 1) = (i : Int) + 1 := by rw [IntKind.wrap_i64]; omega
   obtain ⟨x, hx⟩ : ∃ x, l[i]? = some x := ⟨_, List.getElem?_eq_getElem (by rw [HN.out]; exact ci)⟩
   have hh1 := own_only H1.out HO.out (fun _ _ f => f)
   have hh2 := own_only H2.out HO.out (fun _ _ f => f)
   obtain ⟨b1, d1, he1, -, -⟩ := own_some hh1 (by omega)
   obtain ⟨b2, d2, he2, -, -⟩ := own_some hh2 (by omega)
   cases he1
   cases he2
   have p1 : wr.cell? ⟨b1, i, none⟩ = some (.int .i64 (x : Int)) := by
    rw [hh1.cellAt i (by omega)]
    unfold natsV
    rw [List.getElem?_map, hx]; rfl
   have p2 : wr.cell? ⟨b2, i, none⟩ = some (.int .i64 (x : Int)) := by
    rw [hh2.cellAt i (by omega)]
    unfold natsV
    rw [List.getElem?_map, hx]; rfl
   have hxx : ((x : Int) == (x : Int)) = true := beq_self_eq_true _
   clear hh1 hh2 hx
   go_wp2_with fail
   go_quiet (fail)
   go_wp2_with fail
   go_roundw
   case rel => exact ⟨show Hid _ from HO.out.drewN _, i + 1, by first | rfl | go_num, by omega⟩
   case measure => simp [RowKit.intOf] <;> omega
  ·obtain rfl : i = n := by omega
   go_wp2_with fail
   go_ret
   exact ⟨rfl, HO.out⟩
set_option maxRecDepth 100000 in
set_option maxHeartbeats 8000000 in
attribute [local irreducible] wpQuiet in
theorem NeedsRanks_walk {cs : List Value} {x : RecD} {z : Int} {version virtual name : Str} (hx : RecC w.heap.size w cs x) (hz : InI64 z) (k1 : okS version) (k2 : okS virtual) (k3 : okS name) (hL : Laid w) :
  Calls Tryz.prog 3 #[.agg cs.toArray, .int .i64 z, .string version, .string virtual, .string name] w (fun e w' => e = .returned (.bool true) ∧ Only (fun _ => False) w w') := by
 have HX := Lib.hid hx
 have HL := Lib.hid hL
 obtain ⟨u1, u2, rfl, r1, r2⟩ := hx
 obtain ⟨a1, c1, rfl, g1, g1'⟩ := r1.shape
 obtain ⟨a2, c2, rfl, g2, g2'⟩ := r2.shape
 obtain ⟨n1, hn1⟩ : ∃ n, x.packs.length = n := ⟨_, rfl⟩
 obtain ⟨n2, hn2⟩ : ∃ n, x.prefs.length = n := ⟨_, rfl⟩
 rw [hn1, hn2] at HX ⊢
 rw [hn1] at g1 r1
 have HN1 := Lib.hid hn1
 have HR1 := Lib.hid r1
 have HXw : Hid (∀ W, Only (fun _ => False) w W → RecC W.heap.size W [.slice a1 n1 c1, .slice a2 n2 c2] x) := fun W o => RecC.lift (RecC.keep HX.out (Kp.of0 o)) o.size (Nat.le_refl _)
 obtain ⟨w0, hw0⟩ : ∃ W, w.alloc (.cells #[.slice a1 n1 c1, .slice a2 n2 c2] 25) = W := ⟨_, rfl⟩
 have hb0 : w0.heap[w.heap.size]? = some (.cells #[.slice a1 n1 c1, .slice a2 n2 c2] 25 (0, 0)) := by rw [← hw0]; exact heap_alloc_new _ _
 have o0 : Only (fun _ => False) w w0 := by rw [← hw0]; exact (Only.refl _ _).alloc _
 have HBox : Hid (∀ W, Only (fun _ => False) w0 W → W.cell? ⟨w.heap.size, 0, none⟩ = some (.slice a1 n1 c1) ∧ W.cell? ⟨w.heap.size, 1, none⟩ = some (.slice a2 n2 c2)) := fun W o => by
  have e := only_block hb0 o (fun f => f)
  exact ⟨by rw [cell_block e]; rfl, by rw [cell_block e]; rfl⟩
 have HO0 := Lib.hid o0
 have HFix : Hid (∀ W, Calls Tryz.prog 6 #[] W (fun e w' => e = .returned (.bool true) ∧ Only (fun _ => False) W w')) := fun W => fixed10_any W
 obtain ⟨bx0, bx1⟩ := HBox.out w0 (Only.refl _ _)
 have HK := Lib.hid (And.intro k1 (And.intro k2 k3))
 have hz1 := hz.1
 have hz2 := hz.2
 clear hL r1 r2 hn1 hn2 hb0 o0 k1 k2 k3 hz
 go_enter Tryz.func3, Tryz.ntmps3
 go_wp2_with fail
 refine (Great7_any (HXw.out w0 HO0.out)).mono ?_
 rintro e w1 ⟨b, rfl, hsm, O1⟩
 have HO1 := Lib.hid O1
 have HSm := Lib.hid hsm
 clear O1 hsm
 cases b with
 | true =>
  go_wp2_with fail
  refine (HFix.out _).mono ?_
  rintro e w2 ⟨rfl, O2⟩
  have HO2 := Lib.hid (HO1.out.same O2)
  clear O2
  go_wp2_with fail
  go_ret
  exact ⟨rfl, HO0.out.same HO2.out⟩
 | false =>
  have hsm := HSm.out rfl
  have hpk := hsm.packs
  rw [HN1.out] at hpk
  have HS := Lib.hid hsm
  clear hsm
  obtain ⟨wl, hwl⟩ : ∃ W, w1.alloc (.cells #[.string version, .string virtual, .string name] 9) = W := ⟨_, rfl⟩
  have hbl : wl.heap[w1.heap.size]? = some (.cells #[.string version, .string virtual, .string name] 9 (0, 0)) := by rw [← hwl]; exact heap_alloc_new _ _
  have hsl : wl.heap.size = w1.heap.size + 1 := by rw [← hwl]; exact Array.size_push _
  have ol : Only (fun _ => False) w1 wl := by rw [← hwl]; exact (Only.refl _ _).alloc _
  have hlit : RowT 1 StrC wl.heap.size wl (.slice (some ⟨w1.heap.size, 0, none⟩) 3 3) [version, virtual, name] := RowT.lit hbl (by omega) (Nat.le_refl _) rfl (Nat.le_refl _) (by omega) (fun i hi => by
   match i, hi with
   | 0, _ => exact ⟨[.string version], rfl, rfl, rfl, HK.out.1⟩
   | 1, _ => exact ⟨[.string virtual], rfl, rfl, rfl, HK.out.2.1⟩
   | 2, _ => exact ⟨[.string name], rfl, rfl, rfl, HK.out.2.2⟩)
  have HG1 := Lib.hid (Great1_some hlit)
  have HOl := Lib.hid (HO1.out.same ol)
  clear hbl hsl ol hlit
  go_wp2_with fail
  refine HG1.out.mono ?_
  rintro e w2 ⟨b, rfl, O2⟩
  have HO2 := Lib.hid (HOl.out.same O2)
  obtain ⟨p0, p1⟩ := HBox.out w2 HO2.out
  clear O2 HG1
  cases b with
  | true =>
   go_wp2_with fail
   refine (HFix.out _).mono ?_
   rintro e w3 ⟨rfl, O3⟩
   have HO3 := Lib.hid (HO2.out.same O3)
   clear O3
   go_wp2_with fail
   go_ret
   exact ⟨rfl, HO0.out.same HO3.out⟩
  | false =>
   obtain ⟨pr, hpr⟩ : ∃ k, prefOf x.prefs virtual name = k := ⟨_, rfl⟩
   have hlen6 : x.packs.length ≤ 1000000 := by rw [HN1.out]; omega
   have HP1 : Hid (∀ W, Only (fun _ => False) w2 W → Calls Tryz.prog 9 #[.agg #[.slice a1 n1 c1, .slice a2 n2 c2], .string virtual, .string name] W (fun e w' => e = .returned (.int .i64 pr) ∧ Only (fun _ => False) W w')) := fun W o => by
    have h := Prefer_x (HXw.out W (HO0.out.same (HO2.out.same o))) virtual name
    rw [hpr] at h; exact h
   have HP2 : Hid (∀ W, Only (fun _ => False) w2 W → Calls Tryz.prog 10 #[.agg #[.slice a1 n1 c1, .slice a2 n2 c2], .string virtual, .string name] W (fun e w' => e = .returned (.int .i64 pr) ∧ Only (fun _ => False) W w')) := fun W o => by
    have h := Prefer10_x (HXw.out W (HO0.out.same (HO2.out.same o))) virtual name
    rw [hpr] at h; exact h
   have HT1 : Hid (∀ W, Only (fun _ => False) w2 W → Calls Tryz.prog 12 #[.agg #[.slice a1 n1 c1, .slice a2 n2 c2], .string name] W (fun e w' => ∃ v, e = .returned v ∧ w'.ownsRow 0 3 1 v (x.targets name).length (natsV (x.targets name)) ∧ (∀ k, v.ownBlock = some k → W.heap.size ≤ k) ∧ Only (fun _ => False) W w')) := fun W o => Targets_any (HXw.out W (HO0.out.same (HO2.out.same o))) hlen6 name
   have HT2 : Hid (∀ W, Only (fun _ => False) w2 W → Calls Tryz.prog 13 #[.agg #[.slice a1 n1 c1, .slice a2 n2 c2], .string name] W (fun e w' => ∃ v, e = .returned v ∧ w'.ownsRow 0 3 1 v (x.targets name).length (natsV (x.targets name)) ∧ (∀ k, v.ownBlock = some k → W.heap.size ≤ k) ∧ Only (fun _ => False) W w')) := fun W o => Targets10_x (HXw.out W (HO0.out.same (HO2.out.same o))) hlen6 name
   have HKs : Hid (∀ W, Only (fun _ => False) w2 W → W.cell? ⟨w.heap.size, 0, none⟩ = some (.slice a1 n1 c1) ∧ W.cell? ⟨w.heap.size, 1, none⟩ = some (.slice a2 n2 c2) ∧ Only (fun _ => False) w2 W) := fun W o => ⟨(HBox.out W (HO2.out.same o)).1, (HBox.out W (HO2.out.same o)).2, o⟩
   have hpp : (pr == pr) = true := beq_self_eq_true _
   clear hpr hlen6
   by_cases cz : z < 0
   ·have tz : decide ((0 : Int) ≤ z) = false := decide_eq_false (by omega)
    go_wp2_with fail
    refine wp_region_Q (fun w' => Only (fun _ => False) w2 w') (by kernel_rfl) (by kernel_rfl) (by exact (Only.refl _ _).drew) ?_
    refine wpQ_val (v := ?_) (by rfl) ?_ ?_
    rotate_left
    ·(intro w hSw; (try dsimp only at hSw); obtain ⟨q3, q4⟩ := HBox.out w (HO2.out.same hSw); go_simp <;> (try with_reducible rfl))
    try simp only [Act.put, zq4, zq5, zq6]
    refine wpQ_val (v := ?_) (by rfl) ?_ ?_
    rotate_left
    ·(intro w hSw; (try dsimp only at hSw); obtain ⟨q3, q4⟩ := HBox.out w (HO2.out.same hSw); go_simp <;> (try with_reducible rfl))
    try simp only [Act.put, zq4, zq5, zq6]
    refine wpQ_val (v := ?_) (by rfl) ?_ ?_
    rotate_left
    ·(intro w hSw; (try dsimp only at hSw); obtain ⟨q3, q4⟩ := HBox.out w (HO2.out.same hSw); go_simp <;> (try with_reducible rfl))
    try simp only [Act.put, zq4, zq5, zq6]
    refine wpQ_skip (by kernel_rfl) ?_
    try simp only [Act.put, zq4, zq5, zq6]
    refine wpQ_skip (by kernel_rfl) ?_
    try simp only [Act.put, zq4, zq5, zq6]
    refine wpQ_skip (by kernel_rfl) ?_
    try simp only [Act.put, zq4, zq5, zq6]
    refine wpQ_skip (by kernel_rfl) ?_
    try simp only [Act.put, zq4, zq5, zq6]
    refine wpQ_skip (by kernel_rfl) ?_
    try simp only [Act.put, zq4, zq5, zq6]
    refine wpQ_val (v := ?_) (by rfl) ?_ ?_
    rotate_left
    ·(intro w hSw; (try dsimp only at hSw); obtain ⟨q3, q4⟩ := HBox.out w (HO2.out.same hSw); go_simp <;> (try with_reducible rfl))
    try simp only [Act.put, zq4, zq5, zq6]
    refine wpQ_val (v := ?_) (by rfl) ?_ ?_
    rotate_left
    ·(intro w hSw; (try dsimp only at hSw); obtain ⟨q3, q4⟩ := HBox.out w (HO2.out.same hSw); go_simp <;> (try with_reducible rfl))
    try simp only [Act.put, zq4, zq5, zq6]
    refine wpQ_skip (by kernel_rfl) ?_
    try simp only [Act.put, zq4, zq5, zq6]
    refine wpQ_skip (by kernel_rfl) ?_
    try simp only [Act.put, zq4, zq5, zq6]
    refine wpQ_skip (by kernel_rfl) ?_
    try simp only [Act.put, zq4, zq5, zq6]
    refine wpQ_skip (by kernel_rfl) ?_
    try simp only [Act.put, zq4, zq5, zq6]
    refine wpQ_skip (by kernel_rfl) ?_
    try simp only [Act.put, zq4, zq5, zq6]
    refine wpQ_skip (by kernel_rfl) ?_
    try simp only [Act.put, zq4, zq5, zq6]
    refine wpQ_skip (by kernel_rfl) ?_
    try simp only [Act.put, zq4, zq5, zq6]
    refine wpQ_skip (by kernel_rfl) ?_
    try simp only [Act.put, zq4, zq5, zq6]
    refine wpQ_skip (by kernel_rfl) ?_
    try simp only [Act.put, zq4, zq5, zq6]
    refine wpQ_skip (by kernel_rfl) ?_
    try simp only [Act.put, zq4, zq5, zq6]
    refine wpQ_skip (by kernel_rfl) ?_
    try simp only [Act.put, zq4, zq5, zq6]
    refine wpQ_skip (by kernel_rfl) ?_
    try simp only [Act.put, zq4, zq5, zq6]
    refine wpQ_skip (by kernel_rfl) ?_
    try simp only [Act.put, zq4, zq5, zq6]
    refine wpQ_skip (by kernel_rfl) ?_
    try simp only [Act.put, zq4, zq5, zq6]
    refine wpQ_skip (by kernel_rfl) ?_
    try simp only [Act.put, zq4, zq5, zq6]
    refine wpQ_val (v := ?_) (by rfl) ?_ ?_
    rotate_left
    ·(intro w hSw; (try dsimp only at hSw); obtain ⟨q3, q4⟩ := HBox.out w (HO2.out.same hSw); go_simp <;> (try with_reducible rfl))
    try simp only [Act.put, zq4, zq5, zq6]
    refine wpQuiet_nil ?_
    intro w9 O9
    have HO9 := Lib.hid O9
    clear O9
    go_wp2_with fail
    refine wp_region_G (n := 22) (E := fun j => j == 99) (S := fun W => W.cell? ⟨w.heap.size, 0, none⟩ = some (.slice a1 n1 c1) ∧ W.cell? ⟨w.heap.size, 1, none⟩ = some (.slice a2 n2 c2) ∧ Only (fun _ => False) w2 W) (by kernel_rfl) rfl (HKs.out _ (HO9.out.drew)) (fun hHeld => ?_)
    refine wpAnyG_ready (rs := [0]) (by kernel_rfl) (by simp) ?_
    refine AllReadyG.cons (i := 0) rfl (fun K hK => ?_) ?_
    ·(go_simp; refine (HFix.out _).mono ?_; rintro e w10 ⟨rfl, O10⟩; try go_wp2_with fail)
     refine hK.out _ _ ?_ (fun hHeld => ?_)
     ·(try dsimp only) <;> (exact HKs.out _ (hHeld.2.2.same O10))
     clear hK K
     try simp only [Act.put, zq1, zq2, zq3, zq4, zq5, zq6]
     refine tqW (i := 1) (v := ?_) rfl (.inr (by assumption)) ?_ ?_
     rotate_left
     ·(intro w; go_simp <;> (try with_reducible rfl))
     try simp only [Act.put, zq1, zq2, zq3, zq4, zq5, zq6]
     refine tqK (i := 2) (v := ?_) rfl ?_ ?_
     rotate_left
     ·(intro w hSw; (try dsimp only at hSw); go_simp <;> (try with_reducible rfl))
     try simp only [Act.put, zq1, zq2, zq3, zq4, zq5, zq6]
     refine tqW (i := 3) (v := ?_) rfl (.inr (by assumption)) ?_ ?_
     rotate_left
     ·(intro w; go_simp <;> (try with_reducible rfl))
     try simp only [Act.put, zq1, zq2, zq3, zq4, zq5, zq6]
     refine tqW (i := 4) (v := ?_) rfl (.inr (by assumption)) ?_ ?_
     rotate_left
     ·(intro w; go_simp <;> (try with_reducible rfl))
     try simp only [Act.put, zq1, zq2, zq3, zq4, zq5, zq6]
     refine tqK (i := 6) (v := ?_) rfl ?_ ?_
     rotate_left
     ·(intro w hSw; (try dsimp only at hSw); go_simp <;> (try with_reducible rfl))
     try simp only [Act.put, zq1, zq2, zq3, zq4, zq5, zq6]
     refine tqW (i := 7) (v := ?_) rfl (.inr (by assumption)) ?_ ?_
     rotate_left
     ·(intro w; go_simp <;> (try with_reducible rfl))
     try simp only [Act.put, zq1, zq2, zq3, zq4, zq5, zq6]
     refine tqW (i := 8) (v := ?_) rfl (.inr (by assumption)) ?_ ?_
     rotate_left
     ·(intro w; go_simp <;> (try with_reducible rfl))
     try simp only [Act.put, zq1, zq2, zq3, zq4, zq5, zq6]
     refine wpAnyG_ready (rs := [5]) (by kernel_rfl) (by simp) ?_
     refine AllReadyG.cons (i := 5) rfl (fun K hK => ?_) ?_
     ·(go_simp; refine (HP1.out _ hHeld.2.2).mono ?_; rintro e w11 ⟨rfl, O11⟩; try go_wp2_with fail)
      refine hK.out _ _ ?_ (fun hHeld => ?_)
      ·(try dsimp only) <;> (exact HKs.out _ (hHeld.2.2.same O11))
      clear hK K
      try simp only [Act.put, zq1, zq2, zq3, zq4, zq5, zq6]
      refine wpAnyG_ready (rs := [9]) (by kernel_rfl) (by simp) ?_
      refine AllReadyG.cons (i := 9) rfl (fun K hK => ?_) ?_
      ·(go_simp; refine (HP2.out _ hHeld.2.2).mono ?_; rintro e w12 ⟨rfl, O12⟩; try go_wp2_with fail)
       refine hK.out _ _ ?_ (fun hHeld => ?_)
       ·(try dsimp only) <;> (exact HKs.out _ (hHeld.2.2.same O12))
       clear hK K
       try simp only [Act.put, zq1, zq2, zq3, zq4, zq5, zq6]
       refine tqW (i := 10) (v := ?_) rfl (.inr (by assumption)) ?_ ?_
       rotate_left
       ·(intro w; go_simp <;> (try with_reducible rfl))
       try simp only [Act.put, zq1, zq2, zq3, zq4, zq5, zq6]
       refine tqW (i := 11) (v := ?_) rfl (.inr (by assumption)) ?_ ?_
       rotate_left
       ·(intro w; go_simp <;> (try with_reducible rfl))
       try simp only [Act.put, zq1, zq2, zq3, zq4, zq5, zq6]
       refine tqW (i := 12) (v := ?_) rfl (.inr (by assumption)) ?_ ?_
       rotate_left
       ·(intro w; go_simp <;> (try with_reducible rfl))
       try simp only [Act.put, zq1, zq2, zq3, zq4, zq5, zq6]
       refine tqK (i := 13) (v := ?_) rfl ?_ ?_
       rotate_left
       ·(intro w hSw; (try dsimp only at hSw); go_simp <;> (try with_reducible rfl))
       try simp only [Act.put, zq1, zq2, zq3, zq4, zq5, zq6]
       refine tqW (i := 14) (v := ?_) rfl (.inr (by assumption)) ?_ ?_
       rotate_left
       ·(intro w; go_simp <;> (try with_reducible rfl))
       try simp only [Act.put, zq1, zq2, zq3, zq4, zq5, zq6]
       refine tqK (i := 16) (v := ?_) rfl ?_ ?_
       rotate_left
       ·(intro w hSw; (try dsimp only at hSw); go_simp <;> (try with_reducible rfl))
       try simp only [Act.put, zq1, zq2, zq3, zq4, zq5, zq6]
       refine tqW (i := 17) (v := ?_) rfl (.inr (by assumption)) ?_ ?_
       rotate_left
       ·(intro w; go_simp <;> (try with_reducible rfl))
       try simp only [Act.put, zq1, zq2, zq3, zq4, zq5, zq6]
       refine wpAnyG_ready (rs := [15]) (by kernel_rfl) (by simp) ?_
       refine AllReadyG.cons (i := 15) rfl (fun K hK => ?_) ?_
       ·(go_simp; refine (HT1.out _ hHeld.2.2).mono ?_; rintro e w13 ⟨v13, rfl, h13, -, O13⟩; obtain ⟨b13, d13, rfl, -, -⟩ := own_slice h13; try go_wp2_with fail)
        refine hK.out _ _ ?_ (fun hHeld => ?_)
        ·(try dsimp only) <;> (exact HKs.out _ (hHeld.2.2.same O13))
        clear hK K
        try simp only [Act.put, zq1, zq2, zq3, zq4, zq5, zq6]
        refine wpAnyG_ready (rs := [18]) (by kernel_rfl) (by simp) ?_
        refine AllReadyG.cons (i := 18) rfl (fun K hK => ?_) ?_
        ·(go_simp; refine (HT2.out _ hHeld.2.2).mono ?_; rintro e w14 ⟨v14, rfl, h14, -, O14⟩; obtain ⟨b14, d14, rfl, -, -⟩ := own_slice h14; try go_wp2_with fail)
         refine hK.out _ _ ?_ (fun hHeld => ?_)
         ·(try dsimp only) <;> (exact HKs.out _ (hHeld.2.2.same O14))
         clear hK K
         try simp only [Act.put, zq1, zq2, zq3, zq4, zq5, zq6]
         refine wpAnyG_ready (rs := [19]) (by kernel_rfl) (by simp) ?_
         refine AllReadyG.cons (i := 19) rfl (fun K hK => ?_) ?_
         ·(go_simp; (first | (refine (Same10_x (own_only h13 (Only.same (by repeat (first | exact Only.refl _ _ | apply Only.drew | apply Only.alloc | apply Only.drewN)) O14) (fun _ _ f => f)) h14).mono ?_) | (refine (Same10_x h13 (own_only h14 (Only.same (by repeat (first | exact Only.refl _ _ | apply Only.drew | apply Only.alloc | apply Only.drewN)) O13) (fun _ _ f => f))).mono ?_)); rintro e w15 ⟨rfl, O15⟩; try go_wp2_with fail)
          refine hK.out _ _ ?_ (fun hHeld => ?_)
          ·(try dsimp only) <;> (exact HKs.out _ (hHeld.2.2.same O15))
          clear hK K
          try simp only [Act.put, zq1, zq2, zq3, zq4, zq5, zq6]
          refine tqW (i := 20) (v := ?_) rfl (.inr (by assumption)) ?_ ?_
          rotate_left
          ·(intro w; go_simp <;> (try with_reducible rfl))
          try simp only [Act.put, zq1, zq2, zq3, zq4, zq5, zq6]
          refine tqW (i := 21) (v := ?_) rfl (.inr (by assumption)) ?_ ?_
          rotate_left
          ·(intro w; go_simp <;> (try with_reducible rfl))
          try simp only [Act.put, zq1, zq2, zq3, zq4, zq5, zq6]
          refine wpAnyG_done (by kernel_rfl) ?_ _
          have HF := Lib.hid (HO0.out.same (HO2.out.same hHeld.2.2))
          go_wp2_with fail
          go_ret
          exact ⟨rfl, HF.out⟩
         exact AllReadyG.nil
        exact AllReadyG.nil
       exact AllReadyG.nil
      exact AllReadyG.nil
     exact AllReadyG.nil
    exact AllReadyG.nil
   ·have tz : decide ((0 : Int) ≤ z) = true := decide_eq_true (by omega)
    by_cases cn : z < (n1 : Int)
    ·obtain ⟨k, rfl⟩ : ∃ k : Nat, z = k := ⟨z.toNat, by omega⟩
     have tn : decide ((k : Int) < (n1 : Int)) = true := decide_eq_true cn
     have ck : k < n1 := by omega
     have cz2 : (0 : Int) ≤ (k : Int) := by omega
     obtain ⟨y, hy⟩ : ∃ y, x.packs[k]? = some y := ⟨_, List.getElem?_eq_getElem (by rw [HN1.out]; exact ck)⟩
     obtain ⟨b, off, csy, he, hbB, hBs, hlen, hrg, hC⟩ := (HR1.out.keep PackC.keep (Kp.of0 (HO0.out.same HO2.out))).placed hy
     subst he
     have hrl : y.rels.length ≤ 1000000 := by
      have := (HS.out.all y (List.mem_of_getElem? hy)).rels
      omega
     have HCs : Hid (∀ W, Only (fun _ => False) w2 W → W.rangeAt b (off + k * 8) csy) := fun W o => rangeAt_keep hrg hbB hBs (Kp.of0 o)
     have hlen2 : (Tryz.prog.info? 36).map (·.size) = some csy.length := by rw [hlen]; kernel_rfl
     have HLen := Lib.hid hlen2
     clear hlen2
     obtain ⟨rk, hrk⟩ : ∃ r, rankV y version = r := ⟨_, rfl⟩
     have hrk2 : rank10 y version = rk := by rw [← rank10_eq, hrk]
     have HRk1 : Hid (∀ W, Only (fun _ => False) w2 W → Calls Tryz.prog 7 #[.agg csy.toArray, .string version] W (fun e w' => e = .returned (.int .i64 rk) ∧ Only (fun _ => False) W w')) := fun W o => by
      have h := Rank_x (w := W) (PackC.keep hC (Kp.of0 o)) (Nat.le_trans hBs o.size) hrl version HK.out.1 (HL.out.only (HO0.out.same (HO2.out.same o)))
      rw [hrk] at h
      exact h
     have HRk2 : Hid (∀ W, Only (fun _ => False) w2 W → Calls Tryz.prog 8 #[.agg csy.toArray, .string version] W (fun e w' => e = .returned (.int .i64 rk) ∧ Only (fun _ => False) W w')) := fun W o => by
      have h := Rank10_x (w := W) (PackC.keep hC (Kp.of0 o)) version HK.out.1
      rw [hrk2] at h
      exact h
     have hrr : (rk == rk) = true := beq_self_eq_true _
     have hrr2 : (rk != rk) = false := by rw [bne, hrr]; rfl
     clear hy hrg hC hrk hrk2 hrl hlen
     go_wp2_with fail
     refine wp_region_Q (fun w' => Only (fun _ => False) w2 w') (by kernel_rfl) (by kernel_rfl) (by exact (Only.refl _ _).drew) ?_
     refine wpQ_val (v := ?_) (by rfl) ?_ ?_
     rotate_left
     ·(intro w hSw; (try dsimp only at hSw); obtain ⟨q3, q4⟩ := HBox.out w (HO2.out.same hSw); go_simp <;> (try with_reducible rfl))
     try simp only [Act.put, zq4, zq5, zq6]
     refine wpQ_val (v := ?_) (by rfl) ?_ ?_
     rotate_left
     ·(intro w hSw; (try dsimp only at hSw); obtain ⟨q3, q4⟩ := HBox.out w (HO2.out.same hSw); go_simp <;> (try with_reducible rfl))
     try simp only [Act.put, zq4, zq5, zq6]
     refine wpQ_val (v := ?_) (by rfl) ?_ ?_
     rotate_left
     ·(intro w hSw; (try dsimp only at hSw); obtain ⟨q3, q4⟩ := HBox.out w (HO2.out.same hSw); go_simp <;> (try with_reducible rfl))
     try simp only [Act.put, zq4, zq5, zq6]
     refine wpQ_val (v := ?_) (by rfl) ?_ ?_
     rotate_left
     ·(intro w hSw; (try dsimp only at hSw); obtain ⟨q3, q4⟩ := HBox.out w (HO2.out.same hSw); go_simp <;> (try with_reducible rfl))
     try simp only [Act.put, zq4, zq5, zq6]
     refine wpQ_val (v := ?_) (by rfl) ?_ ?_
     rotate_left
     ·(intro w hSw; (try dsimp only at hSw); obtain ⟨q3, q4⟩ := HBox.out w (HO2.out.same hSw); go_simp <;> (try with_reducible rfl))
     try simp only [Act.put, zq4, zq5, zq6]
     refine wpQ_val (v := ?_) (by rfl) ?_ ?_
     rotate_left
     ·(intro w hSw; (try dsimp only at hSw); obtain ⟨q3, q4⟩ := HBox.out w (HO2.out.same hSw); go_simp <;> (try with_reducible rfl))
     try simp only [Act.put, zq4, zq5, zq6]
     refine wpQ_val (v := ?_) (by rfl) ?_ ?_
     rotate_left
     ·(intro w hSw; (try dsimp only at hSw); obtain ⟨q3, q4⟩ := HBox.out w (HO2.out.same hSw); go_simp <;> (try with_reducible rfl))
     try simp only [Act.put, zq4, zq5, zq6]
     refine wpQ_val (v := ?_) (by rfl) ?_ ?_
     rotate_left
     ·(intro w hSw; (try dsimp only at hSw); obtain ⟨q3, q4⟩ := HBox.out w (HO2.out.same hSw); go_simp <;> (try with_reducible rfl))
     try simp only [Act.put, zq4, zq5, zq6]
     refine wpQ_val (v := ?_) (by rfl) ?_ ?_
     rotate_left
     ·(intro w hSw; (try dsimp only at hSw); obtain ⟨q3, q4⟩ := HBox.out w (HO2.out.same hSw); go_simp <;> (try with_reducible rfl))
     try simp only [Act.put, zq4, zq5, zq6]
     refine wpQ_val (v := ?_) (by rfl) ?_ ?_
     rotate_left
     ·(intro w hSw; (try dsimp only at hSw); obtain ⟨q3, q4⟩ := HBox.out w (HO2.out.same hSw); go_simp <;> (try with_reducible rfl))
     try simp only [Act.put, zq4, zq5, zq6]
     refine wpQ_val (v := ?_) (by rfl) ?_ ?_
     rotate_left
     ·(intro w hSw; (try dsimp only at hSw); obtain ⟨q3, q4⟩ := HBox.out w (HO2.out.same hSw); go_simp <;> (try with_reducible rfl))
     try simp only [Act.put, zq4, zq5, zq6]
     refine wpQ_val (v := ?_) (by rfl) ?_ ?_
     rotate_left
     ·(intro w hSw; (try dsimp only at hSw); obtain ⟨q3, q4⟩ := HBox.out w (HO2.out.same hSw); go_simp <;> (try with_reducible rfl))
     try simp only [Act.put, zq4, zq5, zq6]
     refine wpQ_val (v := ?_) (by rfl) ?_ ?_
     rotate_left
     ·(intro w hSw; (try dsimp only at hSw); obtain ⟨q3, q4⟩ := HBox.out w (HO2.out.same hSw); go_simp <;> (try with_reducible rfl))
     try simp only [Act.put, zq4, zq5, zq6]
     refine wpQ_val (v := ?_) (by rfl) ?_ ?_
     rotate_left
     ·(intro w hSw; (try dsimp only at hSw); obtain ⟨q3, q4⟩ := HBox.out w (HO2.out.same hSw); go_simp <;> (try with_reducible rfl))
     try simp only [Act.put, zq4, zq5, zq6]
     refine wpQ_load_mid (ty := 36) (x := .tmp 34) (b := b) (off := off + k * 8) (cs := csy) (d := _) (by rfl) rfl rfl (fun w hC => HCs.out w hC) Tryz.underlying36 rfl HLen.out ?_
     try simp only [Act.put, zq4, zq5, zq6]
     refine wpQ_val (v := ?_) (by rfl) ?_ ?_
     rotate_left
     ·(intro w hSw; (try dsimp only at hSw); obtain ⟨q3, q4⟩ := HBox.out w (HO2.out.same hSw); go_simp <;> (try with_reducible rfl))
     try simp only [Act.put, zq4, zq5, zq6]
     refine wpQ_call (v := .int .i64 rk) (f := 7) (args := #[.agg csy.toArray, .string version]) (by rfl) ?_ ?_ ?_
     ·(intro w; go_simp <;> (try with_reducible rfl))
     ·(intro w hSw; exact (HRk1.out w hSw).mono fun _ _ ⟨he, hw⟩ => ⟨he, hSw.same hw⟩)
     try simp only [Act.put, zq4, zq5, zq6]
     refine wpQ_val (v := ?_) (by rfl) ?_ ?_
     rotate_left
     ·(intro w hSw; (try dsimp only at hSw); obtain ⟨q3, q4⟩ := HBox.out w (HO2.out.same hSw); go_simp <;> (try with_reducible rfl))
     try simp only [Act.put, zq4, zq5, zq6]
     refine wpQ_val (v := ?_) (by rfl) ?_ ?_
     rotate_left
     ·(intro w hSw; (try dsimp only at hSw); obtain ⟨q3, q4⟩ := HBox.out w (HO2.out.same hSw); go_simp <;> (try with_reducible rfl))
     try simp only [Act.put, zq4, zq5, zq6]
     refine wpQ_val (v := ?_) (by rfl) ?_ ?_
     rotate_left
     ·(intro w hSw; (try dsimp only at hSw); obtain ⟨q3, q4⟩ := HBox.out w (HO2.out.same hSw); go_simp <;> (try with_reducible rfl))
     try simp only [Act.put, zq4, zq5, zq6]
     refine wpQ_val (v := ?_) (by rfl) ?_ ?_
     rotate_left
     ·(intro w hSw; (try dsimp only at hSw); obtain ⟨q3, q4⟩ := HBox.out w (HO2.out.same hSw); go_simp <;> (try with_reducible rfl))
     try simp only [Act.put, zq4, zq5, zq6]
     refine wpQ_load_mid (ty := 36) (x := .tmp 41) (b := b) (off := off + k * 8) (cs := csy) (d := _) (by rfl) rfl rfl (fun w hC => HCs.out w hC) Tryz.underlying36 rfl HLen.out ?_
     try simp only [Act.put, zq4, zq5, zq6]
     refine wpQ_val (v := ?_) (by rfl) ?_ ?_
     rotate_left
     ·(intro w hSw; (try dsimp only at hSw); obtain ⟨q3, q4⟩ := HBox.out w (HO2.out.same hSw); go_simp <;> (try with_reducible rfl))
     try simp only [Act.put, zq4, zq5, zq6]
     refine wpQ_call (v := .int .i64 rk) (f := 8) (args := #[.agg csy.toArray, .string version]) (by rfl) ?_ ?_ ?_
     ·(intro w; go_simp <;> (try with_reducible rfl))
     ·(intro w hSw; exact (HRk2.out w hSw).mono fun _ _ ⟨he, hw⟩ => ⟨he, hSw.same hw⟩)
     try simp only [Act.put, zq4, zq5, zq6]
     refine wpQ_val (v := ?_) (by rfl) ?_ ?_
     rotate_left
     ·(intro w hSw; (try dsimp only at hSw); obtain ⟨q3, q4⟩ := HBox.out w (HO2.out.same hSw); go_simp <;> (try with_reducible rfl))
     try simp only [Act.put, zq4, zq5, zq6]
     refine wpQ_val (v := ?_) (by rfl) ?_ ?_
     rotate_left
     ·(intro w hSw; (try dsimp only at hSw); obtain ⟨q3, q4⟩ := HBox.out w (HO2.out.same hSw); go_simp <;> (try with_reducible rfl))
     try simp only [Act.put, zq4, zq5, zq6]
     refine wpQuiet_nil ?_
     intro w9 O9
     have HO9 := Lib.hid O9
     clear O9
     go_wp2_with fail
     refine wp_region_G (n := 22) (E := fun j => j == 99) (S := fun W => W.cell? ⟨w.heap.size, 0, none⟩ = some (.slice (some ⟨b, off, none⟩) n1 c1) ∧ W.cell? ⟨w.heap.size, 1, none⟩ = some (.slice a2 n2 c2) ∧ Only (fun _ => False) w2 W) (by kernel_rfl) rfl (HKs.out _ (HO9.out.drew)) (fun hHeld => ?_)
     refine wpAnyG_ready (rs := [0]) (by kernel_rfl) (by simp) ?_
     refine AllReadyG.cons (i := 0) rfl (fun K hK => ?_) ?_
     ·(go_simp; refine (HFix.out _).mono ?_; rintro e w10 ⟨rfl, O10⟩; try go_wp2_with fail)
      refine hK.out _ _ ?_ (fun hHeld => ?_)
      ·(try dsimp only) <;> (exact HKs.out _ (hHeld.2.2.same O10))
      clear hK K
      try simp only [Act.put, zq1, zq2, zq3, zq4, zq5, zq6]
      refine tqW (i := 1) (v := ?_) rfl (.inr (by assumption)) ?_ ?_
      rotate_left
      ·(intro w; go_simp <;> (try with_reducible rfl))
      try simp only [Act.put, zq1, zq2, zq3, zq4, zq5, zq6]
      refine tqK (i := 2) (v := ?_) rfl ?_ ?_
      rotate_left
      ·(intro w hSw; (try dsimp only at hSw); go_simp <;> (try with_reducible rfl))
      try simp only [Act.put, zq1, zq2, zq3, zq4, zq5, zq6]
      refine tqW (i := 3) (v := ?_) rfl (.inr (by assumption)) ?_ ?_
      rotate_left
      ·(intro w; go_simp <;> (try with_reducible rfl))
      try simp only [Act.put, zq1, zq2, zq3, zq4, zq5, zq6]
      refine tqW (i := 4) (v := ?_) rfl (.inr (by assumption)) ?_ ?_
      rotate_left
      ·(intro w; go_simp <;> (try with_reducible rfl))
      try simp only [Act.put, zq1, zq2, zq3, zq4, zq5, zq6]
      refine tqK (i := 6) (v := ?_) rfl ?_ ?_
      rotate_left
      ·(intro w hSw; (try dsimp only at hSw); go_simp <;> (try with_reducible rfl))
      try simp only [Act.put, zq1, zq2, zq3, zq4, zq5, zq6]
      refine tqW (i := 7) (v := ?_) rfl (.inr (by assumption)) ?_ ?_
      rotate_left
      ·(intro w; go_simp <;> (try with_reducible rfl))
      try simp only [Act.put, zq1, zq2, zq3, zq4, zq5, zq6]
      refine tqW (i := 8) (v := ?_) rfl (.inr (by assumption)) ?_ ?_
      rotate_left
      ·(intro w; go_simp <;> (try with_reducible rfl))
      try simp only [Act.put, zq1, zq2, zq3, zq4, zq5, zq6]
      refine wpAnyG_ready (rs := [5]) (by kernel_rfl) (by simp) ?_
      refine AllReadyG.cons (i := 5) rfl (fun K hK => ?_) ?_
      ·(go_simp; refine (HP1.out _ hHeld.2.2).mono ?_; rintro e w11 ⟨rfl, O11⟩; try go_wp2_with fail)
       refine hK.out _ _ ?_ (fun hHeld => ?_)
       ·(try dsimp only) <;> (exact HKs.out _ (hHeld.2.2.same O11))
       clear hK K
       try simp only [Act.put, zq1, zq2, zq3, zq4, zq5, zq6]
       refine wpAnyG_ready (rs := [9]) (by kernel_rfl) (by simp) ?_
       refine AllReadyG.cons (i := 9) rfl (fun K hK => ?_) ?_
       ·(go_simp; refine (HP2.out _ hHeld.2.2).mono ?_; rintro e w12 ⟨rfl, O12⟩; try go_wp2_with fail)
        refine hK.out _ _ ?_ (fun hHeld => ?_)
        ·(try dsimp only) <;> (exact HKs.out _ (hHeld.2.2.same O12))
        clear hK K
        try simp only [Act.put, zq1, zq2, zq3, zq4, zq5, zq6]
        refine tqW (i := 10) (v := ?_) rfl (.inr (by assumption)) ?_ ?_
        rotate_left
        ·(intro w; go_simp <;> (try with_reducible rfl))
        try simp only [Act.put, zq1, zq2, zq3, zq4, zq5, zq6]
        refine tqW (i := 11) (v := ?_) rfl (.inr (by assumption)) ?_ ?_
        rotate_left
        ·(intro w; go_simp <;> (try with_reducible rfl))
        try simp only [Act.put, zq1, zq2, zq3, zq4, zq5, zq6]
        refine tqW (i := 12) (v := ?_) rfl (.inr (by assumption)) ?_ ?_
        rotate_left
        ·(intro w; go_simp <;> (try with_reducible rfl))
        try simp only [Act.put, zq1, zq2, zq3, zq4, zq5, zq6]
        refine tqK (i := 13) (v := ?_) rfl ?_ ?_
        rotate_left
        ·(intro w hSw; (try dsimp only at hSw); go_simp <;> (try with_reducible rfl))
        try simp only [Act.put, zq1, zq2, zq3, zq4, zq5, zq6]
        refine tqW (i := 14) (v := ?_) rfl (.inr (by assumption)) ?_ ?_
        rotate_left
        ·(intro w; go_simp <;> (try with_reducible rfl))
        try simp only [Act.put, zq1, zq2, zq3, zq4, zq5, zq6]
        refine tqK (i := 16) (v := ?_) rfl ?_ ?_
        rotate_left
        ·(intro w hSw; (try dsimp only at hSw); go_simp <;> (try with_reducible rfl))
        try simp only [Act.put, zq1, zq2, zq3, zq4, zq5, zq6]
        refine tqW (i := 17) (v := ?_) rfl (.inr (by assumption)) ?_ ?_
        rotate_left
        ·(intro w; go_simp <;> (try with_reducible rfl))
        try simp only [Act.put, zq1, zq2, zq3, zq4, zq5, zq6]
        refine wpAnyG_ready (rs := [15]) (by kernel_rfl) (by simp) ?_
        refine AllReadyG.cons (i := 15) rfl (fun K hK => ?_) ?_
        ·(go_simp; refine (HT1.out _ hHeld.2.2).mono ?_; rintro e w13 ⟨v13, rfl, h13, -, O13⟩; obtain ⟨b13, d13, rfl, -, -⟩ := own_slice h13; try go_wp2_with fail)
         refine hK.out _ _ ?_ (fun hHeld => ?_)
         ·(try dsimp only) <;> (exact HKs.out _ (hHeld.2.2.same O13))
         clear hK K
         try simp only [Act.put, zq1, zq2, zq3, zq4, zq5, zq6]
         refine wpAnyG_ready (rs := [18]) (by kernel_rfl) (by simp) ?_
         refine AllReadyG.cons (i := 18) rfl (fun K hK => ?_) ?_
         ·(go_simp; refine (HT2.out _ hHeld.2.2).mono ?_; rintro e w14 ⟨v14, rfl, h14, -, O14⟩; obtain ⟨b14, d14, rfl, -, -⟩ := own_slice h14; try go_wp2_with fail)
          refine hK.out _ _ ?_ (fun hHeld => ?_)
          ·(try dsimp only) <;> (exact HKs.out _ (hHeld.2.2.same O14))
          clear hK K
          try simp only [Act.put, zq1, zq2, zq3, zq4, zq5, zq6]
          refine wpAnyG_ready (rs := [19]) (by kernel_rfl) (by simp) ?_
          refine AllReadyG.cons (i := 19) rfl (fun K hK => ?_) ?_
          ·(go_simp; (first | (refine (Same10_x (own_only h13 (Only.same (by repeat (first | exact Only.refl _ _ | apply Only.drew | apply Only.alloc | apply Only.drewN)) O14) (fun _ _ f => f)) h14).mono ?_) | (refine (Same10_x h13 (own_only h14 (Only.same (by repeat (first | exact Only.refl _ _ | apply Only.drew | apply Only.alloc | apply Only.drewN)) O13) (fun _ _ f => f))).mono ?_)); rintro e w15 ⟨rfl, O15⟩; try go_wp2_with fail)
           refine hK.out _ _ ?_ (fun hHeld => ?_)
           ·(try dsimp only) <;> (exact HKs.out _ (hHeld.2.2.same O15))
           clear hK K
           try simp only [Act.put, zq1, zq2, zq3, zq4, zq5, zq6]
           refine tqW (i := 20) (v := ?_) rfl (.inr (by assumption)) ?_ ?_
           rotate_left
           ·(intro w; go_simp <;> (try with_reducible rfl))
           try simp only [Act.put, zq1, zq2, zq3, zq4, zq5, zq6]
           refine tqW (i := 21) (v := ?_) rfl (.inr (by assumption)) ?_ ?_
           rotate_left
           ·(intro w; go_simp <;> (try with_reducible rfl))
           try simp only [Act.put, zq1, zq2, zq3, zq4, zq5, zq6]
           refine wpAnyG_done (by kernel_rfl) ?_ _
           have HF := Lib.hid (HO0.out.same (HO2.out.same hHeld.2.2))
           go_wp2_with fail
           go_ret
           exact ⟨rfl, HF.out⟩
          exact AllReadyG.nil
         exact AllReadyG.nil
        exact AllReadyG.nil
       exact AllReadyG.nil
      exact AllReadyG.nil
     exact AllReadyG.nil
    ·have tn : decide (z < (n1 : Int)) = false := decide_eq_false cn
     go_wp2_with fail
     refine wp_region_Q (fun w' => Only (fun _ => False) w2 w') (by kernel_rfl) (by kernel_rfl) (by exact (Only.refl _ _).drew) ?_
     refine wpQ_val (v := ?_) (by rfl) ?_ ?_
     rotate_left
     ·(intro w hSw; (try dsimp only at hSw); obtain ⟨q3, q4⟩ := HBox.out w (HO2.out.same hSw); go_simp <;> (try with_reducible rfl))
     try simp only [Act.put, zq4, zq5, zq6]
     refine wpQ_val (v := ?_) (by rfl) ?_ ?_
     rotate_left
     ·(intro w hSw; (try dsimp only at hSw); obtain ⟨q3, q4⟩ := HBox.out w (HO2.out.same hSw); go_simp <;> (try with_reducible rfl))
     try simp only [Act.put, zq4, zq5, zq6]
     refine wpQ_val (v := ?_) (by rfl) ?_ ?_
     rotate_left
     ·(intro w hSw; (try dsimp only at hSw); obtain ⟨q3, q4⟩ := HBox.out w (HO2.out.same hSw); go_simp <;> (try with_reducible rfl))
     try simp only [Act.put, zq4, zq5, zq6]
     refine wpQ_val (v := ?_) (by rfl) ?_ ?_
     rotate_left
     ·(intro w hSw; (try dsimp only at hSw); obtain ⟨q3, q4⟩ := HBox.out w (HO2.out.same hSw); go_simp <;> (try with_reducible rfl))
     try simp only [Act.put, zq4, zq5, zq6]
     refine wpQ_val (v := ?_) (by rfl) ?_ ?_
     rotate_left
     ·(intro w hSw; (try dsimp only at hSw); obtain ⟨q3, q4⟩ := HBox.out w (HO2.out.same hSw); go_simp <;> (try with_reducible rfl))
     try simp only [Act.put, zq4, zq5, zq6]
     refine wpQ_val (v := ?_) (by rfl) ?_ ?_
     rotate_left
     ·(intro w hSw; (try dsimp only at hSw); obtain ⟨q3, q4⟩ := HBox.out w (HO2.out.same hSw); go_simp <;> (try with_reducible rfl))
     try simp only [Act.put, zq4, zq5, zq6]
     refine wpQ_val (v := ?_) (by rfl) ?_ ?_
     rotate_left
     ·(intro w hSw; (try dsimp only at hSw); obtain ⟨q3, q4⟩ := HBox.out w (HO2.out.same hSw); go_simp <;> (try with_reducible rfl))
     try simp only [Act.put, zq4, zq5, zq6]
     refine wpQ_val (v := ?_) (by rfl) ?_ ?_
     rotate_left
     ·(intro w hSw; (try dsimp only at hSw); obtain ⟨q3, q4⟩ := HBox.out w (HO2.out.same hSw); go_simp <;> (try with_reducible rfl))
     try simp only [Act.put, zq4, zq5, zq6]
     refine wpQ_val (v := ?_) (by rfl) ?_ ?_
     rotate_left
     ·(intro w hSw; (try dsimp only at hSw); obtain ⟨q3, q4⟩ := HBox.out w (HO2.out.same hSw); go_simp <;> (try with_reducible rfl))
     try simp only [Act.put, zq4, zq5, zq6]
     refine wpQ_val (v := ?_) (by rfl) ?_ ?_
     rotate_left
     ·(intro w hSw; (try dsimp only at hSw); obtain ⟨q3, q4⟩ := HBox.out w (HO2.out.same hSw); go_simp <;> (try with_reducible rfl))
     try simp only [Act.put, zq4, zq5, zq6]
     refine wpQ_skip (by kernel_rfl) ?_
     try simp only [Act.put, zq4, zq5, zq6]
     refine wpQ_skip (by kernel_rfl) ?_
     try simp only [Act.put, zq4, zq5, zq6]
     refine wpQ_skip (by kernel_rfl) ?_
     try simp only [Act.put, zq4, zq5, zq6]
     refine wpQ_skip (by kernel_rfl) ?_
     try simp only [Act.put, zq4, zq5, zq6]
     refine wpQ_skip (by kernel_rfl) ?_
     try simp only [Act.put, zq4, zq5, zq6]
     refine wpQ_skip (by kernel_rfl) ?_
     try simp only [Act.put, zq4, zq5, zq6]
     refine wpQ_skip (by kernel_rfl) ?_
     try simp only [Act.put, zq4, zq5, zq6]
     refine wpQ_skip (by kernel_rfl) ?_
     try simp only [Act.put, zq4, zq5, zq6]
     refine wpQ_skip (by kernel_rfl) ?_
     try simp only [Act.put, zq4, zq5, zq6]
     refine wpQ_skip (by kernel_rfl) ?_
     try simp only [Act.put, zq4, zq5, zq6]
     refine wpQ_skip (by kernel_rfl) ?_
     try simp only [Act.put, zq4, zq5, zq6]
     refine wpQ_skip (by kernel_rfl) ?_
     try simp only [Act.put, zq4, zq5, zq6]
     refine wpQ_skip (by kernel_rfl) ?_
     try simp only [Act.put, zq4, zq5, zq6]
     refine wpQ_skip (by kernel_rfl) ?_
     try simp only [Act.put, zq4, zq5, zq6]
     refine wpQ_skip (by kernel_rfl) ?_
     try simp only [Act.put, zq4, zq5, zq6]
     refine wpQ_val (v := ?_) (by rfl) ?_ ?_
     rotate_left
     ·(intro w hSw; (try dsimp only at hSw); obtain ⟨q3, q4⟩ := HBox.out w (HO2.out.same hSw); go_simp <;> (try with_reducible rfl))
     try simp only [Act.put, zq4, zq5, zq6]
     refine wpQuiet_nil ?_
     intro w9 O9
     have HO9 := Lib.hid O9
     clear O9
     go_wp2_with fail
     refine wp_region_G (n := 22) (E := fun j => j == 99) (S := fun W => W.cell? ⟨w.heap.size, 0, none⟩ = some (.slice a1 n1 c1) ∧ W.cell? ⟨w.heap.size, 1, none⟩ = some (.slice a2 n2 c2) ∧ Only (fun _ => False) w2 W) (by kernel_rfl) rfl (HKs.out _ (HO9.out.drew)) (fun hHeld => ?_)
     refine wpAnyG_ready (rs := [0]) (by kernel_rfl) (by simp) ?_
     refine AllReadyG.cons (i := 0) rfl (fun K hK => ?_) ?_
     ·(go_simp; refine (HFix.out _).mono ?_; rintro e w10 ⟨rfl, O10⟩; try go_wp2_with fail)
      refine hK.out _ _ ?_ (fun hHeld => ?_)
      ·(try dsimp only) <;> (exact HKs.out _ (hHeld.2.2.same O10))
      clear hK K
      try simp only [Act.put, zq1, zq2, zq3, zq4, zq5, zq6]
      refine tqW (i := 1) (v := ?_) rfl (.inr (by assumption)) ?_ ?_
      rotate_left
      ·(intro w; go_simp <;> (try with_reducible rfl))
      try simp only [Act.put, zq1, zq2, zq3, zq4, zq5, zq6]
      refine tqK (i := 2) (v := ?_) rfl ?_ ?_
      rotate_left
      ·(intro w hSw; (try dsimp only at hSw); go_simp <;> (try with_reducible rfl))
      try simp only [Act.put, zq1, zq2, zq3, zq4, zq5, zq6]
      refine tqW (i := 3) (v := ?_) rfl (.inr (by assumption)) ?_ ?_
      rotate_left
      ·(intro w; go_simp <;> (try with_reducible rfl))
      try simp only [Act.put, zq1, zq2, zq3, zq4, zq5, zq6]
      refine tqW (i := 4) (v := ?_) rfl (.inr (by assumption)) ?_ ?_
      rotate_left
      ·(intro w; go_simp <;> (try with_reducible rfl))
      try simp only [Act.put, zq1, zq2, zq3, zq4, zq5, zq6]
      refine tqK (i := 6) (v := ?_) rfl ?_ ?_
      rotate_left
      ·(intro w hSw; (try dsimp only at hSw); go_simp <;> (try with_reducible rfl))
      try simp only [Act.put, zq1, zq2, zq3, zq4, zq5, zq6]
      refine tqW (i := 7) (v := ?_) rfl (.inr (by assumption)) ?_ ?_
      rotate_left
      ·(intro w; go_simp <;> (try with_reducible rfl))
      try simp only [Act.put, zq1, zq2, zq3, zq4, zq5, zq6]
      refine tqW (i := 8) (v := ?_) rfl (.inr (by assumption)) ?_ ?_
      rotate_left
      ·(intro w; go_simp <;> (try with_reducible rfl))
      try simp only [Act.put, zq1, zq2, zq3, zq4, zq5, zq6]
      refine wpAnyG_ready (rs := [5]) (by kernel_rfl) (by simp) ?_
      refine AllReadyG.cons (i := 5) rfl (fun K hK => ?_) ?_
      ·(go_simp; refine (HP1.out _ hHeld.2.2).mono ?_; rintro e w11 ⟨rfl, O11⟩; try go_wp2_with fail)
       refine hK.out _ _ ?_ (fun hHeld => ?_)
       ·(try dsimp only) <;> (exact HKs.out _ (hHeld.2.2.same O11))
       clear hK K
       try simp only [Act.put, zq1, zq2, zq3, zq4, zq5, zq6]
       refine wpAnyG_ready (rs := [9]) (by kernel_rfl) (by simp) ?_
       refine AllReadyG.cons (i := 9) rfl (fun K hK => ?_) ?_
       ·(go_simp; refine (HP2.out _ hHeld.2.2).mono ?_; rintro e w12 ⟨rfl, O12⟩; try go_wp2_with fail)
        refine hK.out _ _ ?_ (fun hHeld => ?_)
        ·(try dsimp only) <;> (exact HKs.out _ (hHeld.2.2.same O12))
        clear hK K
        try simp only [Act.put, zq1, zq2, zq3, zq4, zq5, zq6]
        refine tqW (i := 10) (v := ?_) rfl (.inr (by assumption)) ?_ ?_
        rotate_left
        ·(intro w; go_simp <;> (try with_reducible rfl))
        try simp only [Act.put, zq1, zq2, zq3, zq4, zq5, zq6]
        refine tqW (i := 11) (v := ?_) rfl (.inr (by assumption)) ?_ ?_
        rotate_left
        ·(intro w; go_simp <;> (try with_reducible rfl))
        try simp only [Act.put, zq1, zq2, zq3, zq4, zq5, zq6]
        refine tqW (i := 12) (v := ?_) rfl (.inr (by assumption)) ?_ ?_
        rotate_left
        ·(intro w; go_simp <;> (try with_reducible rfl))
        try simp only [Act.put, zq1, zq2, zq3, zq4, zq5, zq6]
        refine tqK (i := 13) (v := ?_) rfl ?_ ?_
        rotate_left
        ·(intro w hSw; (try dsimp only at hSw); go_simp <;> (try with_reducible rfl))
        try simp only [Act.put, zq1, zq2, zq3, zq4, zq5, zq6]
        refine tqW (i := 14) (v := ?_) rfl (.inr (by assumption)) ?_ ?_
        rotate_left
        ·(intro w; go_simp <;> (try with_reducible rfl))
        try simp only [Act.put, zq1, zq2, zq3, zq4, zq5, zq6]
        refine tqK (i := 16) (v := ?_) rfl ?_ ?_
        rotate_left
        ·(intro w hSw; (try dsimp only at hSw); go_simp <;> (try with_reducible rfl))
        try simp only [Act.put, zq1, zq2, zq3, zq4, zq5, zq6]
        refine tqW (i := 17) (v := ?_) rfl (.inr (by assumption)) ?_ ?_
        rotate_left
        ·(intro w; go_simp <;> (try with_reducible rfl))
        try simp only [Act.put, zq1, zq2, zq3, zq4, zq5, zq6]
        refine wpAnyG_ready (rs := [15]) (by kernel_rfl) (by simp) ?_
        refine AllReadyG.cons (i := 15) rfl (fun K hK => ?_) ?_
        ·(go_simp; refine (HT1.out _ hHeld.2.2).mono ?_; rintro e w13 ⟨v13, rfl, h13, -, O13⟩; obtain ⟨b13, d13, rfl, -, -⟩ := own_slice h13; try go_wp2_with fail)
         refine hK.out _ _ ?_ (fun hHeld => ?_)
         ·(try dsimp only) <;> (exact HKs.out _ (hHeld.2.2.same O13))
         clear hK K
         try simp only [Act.put, zq1, zq2, zq3, zq4, zq5, zq6]
         refine wpAnyG_ready (rs := [18]) (by kernel_rfl) (by simp) ?_
         refine AllReadyG.cons (i := 18) rfl (fun K hK => ?_) ?_
         ·(go_simp; refine (HT2.out _ hHeld.2.2).mono ?_; rintro e w14 ⟨v14, rfl, h14, -, O14⟩; obtain ⟨b14, d14, rfl, -, -⟩ := own_slice h14; try go_wp2_with fail)
          refine hK.out _ _ ?_ (fun hHeld => ?_)
          ·(try dsimp only) <;> (exact HKs.out _ (hHeld.2.2.same O14))
          clear hK K
          try simp only [Act.put, zq1, zq2, zq3, zq4, zq5, zq6]
          refine wpAnyG_ready (rs := [19]) (by kernel_rfl) (by simp) ?_
          refine AllReadyG.cons (i := 19) rfl (fun K hK => ?_) ?_
          ·(go_simp; (first | (refine (Same10_x (own_only h13 (Only.same (by repeat (first | exact Only.refl _ _ | apply Only.drew | apply Only.alloc | apply Only.drewN)) O14) (fun _ _ f => f)) h14).mono ?_) | (refine (Same10_x h13 (own_only h14 (Only.same (by repeat (first | exact Only.refl _ _ | apply Only.drew | apply Only.alloc | apply Only.drewN)) O13) (fun _ _ f => f))).mono ?_)); rintro e w15 ⟨rfl, O15⟩; try go_wp2_with fail)
           refine hK.out _ _ ?_ (fun hHeld => ?_)
           ·(try dsimp only) <;> (exact HKs.out _ (hHeld.2.2.same O15))
           clear hK K
           try simp only [Act.put, zq1, zq2, zq3, zq4, zq5, zq6]
           refine tqW (i := 20) (v := ?_) rfl (.inr (by assumption)) ?_ ?_
           rotate_left
           ·(intro w; go_simp <;> (try with_reducible rfl))
           try simp only [Act.put, zq1, zq2, zq3, zq4, zq5, zq6]
           refine tqW (i := 21) (v := ?_) rfl (.inr (by assumption)) ?_ ?_
           rotate_left
           ·(intro w; go_simp <;> (try with_reducible rfl))
           try simp only [Act.put, zq1, zq2, zq3, zq4, zq5, zq6]
           refine wpAnyG_done (by kernel_rfl) ?_ _
           have HF := Lib.hid (HO0.out.same (HO2.out.same hHeld.2.2))
           go_wp2_with fail
           go_ret
           exact ⟨rfl, HF.out⟩
          exact AllReadyG.nil
         exact AllReadyG.nil
        exact AllReadyG.nil
       exact AllReadyG.nil
      exact AllReadyG.nil
     exact AllReadyG.nil
end
end Go.Proofs.YtmlfchjompfmaaaGreatDoor

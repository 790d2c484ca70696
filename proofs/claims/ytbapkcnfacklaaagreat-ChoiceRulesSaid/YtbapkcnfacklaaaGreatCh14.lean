/- ChoiceRules: the walk. Printed by gen_ch14.py. -/
import Derived.Test.YtbapkcnfacklaaaGreatChC
import Derived.Test.YtbapkcnfacklaaaGreatRfD
set_option linter.unusedVariables false
namespace Go.Proofs.YtbapkcnfacklaaaGreat
open Go.RowKit
section
variable {w w' : World} {B : Nat}
theorem RuleC_at {ao : Option Addr} {len cap i : Nat} {xs : List RuleD} {y : RuleD} (h : RowT 4 RuleC B w (.slice ao len cap) xs) (hx : xs[i]? = some y) :
  ∃ (b off : Nat), ao = some ⟨b, off, none⟩ ∧ ((0 ≤ y.kind ∧ y.kind ≤ 255) ∧ InI64 y.pack ∧ InI64 y.idx ∧ InI64 y.line) ∧
  ∀ W, Only (fun _ => False) w W → W.rangeAt b (off + i * 4) [.int .u8 y.kind, .int .i64 y.pack, .int .i64 y.idx, .int .i64 y.line] := by
 obtain ⟨b, off, cs, rfl, hb, hB, -, hr, hC⟩ := h.placed hx
 obtain ⟨rfl, hk⟩ := hC
 exact ⟨b, off, rfl, hk, fun W ho => rangeAt_keep hr hb hB (Kp.of0 ho)⟩
set_option maxRecDepth 100000 in
set_option maxHeartbeats 4000000 in
theorem ChoiceRules_walk {csx : List Value} {x : RecD} (hx : RecC B w csx x) {csq : List Value} {q : ReqD} (hq : ReqC B w csq q) (hBw : B ≤ w.heap.size) :
  Calls Tryz.prog 6 #[.agg csx.toArray, .agg csq.toArray] w fun e w' => e = .returned (.bool true) ∧ Only (fun _ => False) w w' := by
 have HH_x := Lib.hid hx
 obtain ⟨u1, u2, rfl, r1, r2⟩ := hx
 obtain ⟨a_x_packs, c_x_packs, rfl, g_x_packs, h_x_packs⟩ := r1.shape
 obtain ⟨n_x_packs, e1⟩ : ∃ n, x.packs.length = n := ⟨_, rfl⟩
 have N_x_packs := Lib.hid e1
 obtain ⟨a_x_prefs, c_x_prefs, rfl, g_x_prefs, h_x_prefs⟩ := r2.shape
 obtain ⟨n_x_prefs, e2⟩ : ∃ n, x.prefs.length = n := ⟨_, rfl⟩
 have N_x_prefs := Lib.hid e2
 rw [e1, e2] at HH_x
 rw [e1] at r1 g_x_packs
 have RR_x_packs := Lib.hid r1
 rw [e2] at r2 g_x_prefs
 have RR_x_prefs := Lib.hid r2
 rw [e1, e2]
 clear e1 e2 r1 r2
 have HH_q := Lib.hid hq
 obtain ⟨u1, rfl, r1⟩ := hq
 obtain ⟨a_q_roots, c_q_roots, rfl, g_q_roots, h_q_roots⟩ := r1.shape
 obtain ⟨n_q_roots, e1⟩ : ∃ n, q.roots.length = n := ⟨_, rfl⟩
 have N_q_roots := Lib.hid e1
 rw [e1] at HH_q
 rw [e1] at r1 g_q_roots
 have RR_q_roots := Lib.hid r1
 rw [e1]
 clear e1 r1
 obtain ⟨W0, hW0⟩ : ∃ W0, W0 = ((w.alloc (.cells #[.slice a_x_packs n_x_packs c_x_packs, .slice a_x_prefs n_x_prefs c_x_prefs] 25)).alloc (.cells #[.slice a_q_roots n_q_roots c_q_roots] 28)) := ⟨_, rfl⟩
 have HOB : Hid (Only (fun _ => False) w W0) := by rw [hW0]; exact ((Only.refl _ _).alloc _).alloc _
 have HSz : Hid (W0.heap.size = w.heap.size + 2) := by rw [hW0]; simp [Hid]
 have HBox : Hid (∀ W, Only (fun _ => False) W0 W → W.cell? ⟨w.heap.size, 0, none⟩ = some (.slice a_x_packs n_x_packs c_x_packs) ∧ W.cell? ⟨w.heap.size, 1, none⟩ = some (.slice a_x_prefs n_x_prefs c_x_prefs) ∧ W.cell? ⟨w.heap.size + 1, 0, none⟩ = some (.slice a_q_roots n_q_roots c_q_roots)) := fun W ho => by
  have b0 : W0.heap[w.heap.size]? = some (.cells #[.slice a_x_packs n_x_packs c_x_packs, .slice a_x_prefs n_x_prefs c_x_prefs] 25) := by rw [hW0]; exact alloc_block (alloc_at rfl) _
  have d0 := only_block b0 ho (fun f => f)
  have b1 : W0.heap[w.heap.size + 1]? = some (.cells #[.slice a_q_roots n_q_roots c_q_roots] 28) := by rw [hW0]; exact alloc_at (by simp)
  have d1 := only_block b1 ho (fun f => f)
  exact ⟨by rw [cell_block d0]; rfl, by rw [cell_block d0]; rfl, by rw [cell_block d1]; rfl⟩
 have HK_x : Hid (∀ W, Only (fun _ => False) W0 W → RecC B W [.slice a_x_packs n_x_packs c_x_packs, .slice a_x_prefs n_x_prefs c_x_prefs] x) := fun W ho => RecC.keep HH_x.out (Kp.of0 (HOB.out.same ho) : Kp B w W)
 have HR_x_packs : Hid (∀ W, Only (fun _ => False) W0 W → RowT 8 PackC B W (.slice a_x_packs n_x_packs c_x_packs) x.packs) := fun W ho => RR_x_packs.out.keep PackC.keep (Kp.of0 (HOB.out.same ho))
 clear RR_x_packs
 have HR_x_prefs : Hid (∀ W, Only (fun _ => False) W0 W → RowT 3 PrefC B W (.slice a_x_prefs n_x_prefs c_x_prefs) x.prefs) := fun W ho => RR_x_prefs.out.keep PrefC.keep (Kp.of0 (HOB.out.same ho))
 clear RR_x_prefs
 clear HH_x
 have HK_q : Hid (∀ W, Only (fun _ => False) W0 W → ReqC B W [.slice a_q_roots n_q_roots c_q_roots] q) := fun W ho => ReqC.keep HH_q.out (Kp.of0 (HOB.out.same ho) : Kp B w W)
 have HR_q_roots : Hid (∀ W, Only (fun _ => False) W0 W → RowT 4 RootC B W (.slice a_q_roots n_q_roots c_q_roots) q.roots) := fun W ho => RR_q_roots.out.keep RootC.keep (Kp.of0 (HOB.out.same ho))
 clear RR_q_roots
 clear HH_q
 have HGt := Lib.hid (GreatL13_any (HK_x.out W0 (Only.refl _ _)) (HK_q.out W0 (Only.refl _ _)))
 obtain ⟨k0, k1, k2⟩ := HBox.out W0 (Only.refl _ _)
 rw [hW0] at k0 k1 k2
 go_enter Tryz.func6, Tryz.ntmps6
 go_wp2_with fail
 rw [← hW0] at k0 k1 k2 ⊢
 clear hW0
 refine HGt.out.mono ?_
 rintro e w2 ⟨b2, rfl, hf2, O2⟩
 have HO2 := Lib.hid O2
 clear O2 HGt k0 k1 k2
 obtain ⟨k0, k1, k2⟩ := HBox.out w2 HO2.out
 cases b2 with
 | true =>
  clear hf2
  go_wp2_with fail
  refine (fixed13_any _).mono ?_
  rintro e w3 ⟨rfl, O3⟩
  have HO3 := Lib.hid (HO2.out.same O3)
  clear O3 k0 k1 k2
  go_wp2_with fail
  go_ret
  exact ⟨rfl, HOB.out.same HO3.out⟩
 | false =>
  replace hf2 := hf2 rfl
  have hs := hf2.1
  have hq := hf2.2.1
  have hch := hf2.2.2
  have hpk := hch.packs
  have hq2 : n_q_roots ≤ 40 := by rw [← N_q_roots.out]; exact hq
  rw [N_x_packs.out] at hpk
  obtain ⟨L2, hL2⟩ : ∃ l, x.closure q.names = l := ⟨_, rfl⟩
  have HL2 := Lib.hid hL2
  obtain ⟨nC, hnC⟩ : ∃ n, L2.length = n := ⟨_, rfl⟩
  have HC2 := Lib.hid hnC
  have hnC8 : nC ≤ 8 := by rw [← hnC, ← hL2]; have := x.closure_len q.names; rw [N_x_packs.out] at this; omega
  obtain ⟨L, hL⟩ : ∃ l, rulesOf x q L2 = l := ⟨_, rfl⟩
  obtain ⟨nL, hnL⟩ : ∃ n, L.length = n := ⟨_, rfl⟩
  have HLn := Lib.hid hnL
  have hok := smallRuOk hs hq
  rw [hL2] at hok
  have HOk := Lib.hid hok
  have hnLb : nL ≤ 100000 := by
   rw [← hnL, ← hL]
   unfold rulesOf
   rw [List.length_append]
   have h1 : (rootRs q q.roots.length).length = q.roots.length := by unfold rootRs; simp
   have h2 := flatMap_le (x := x) (l := L2) fun p hp => by
    have := hok.lt p hp
    have hm : x.pack p ∈ x.packs := RecD.pack_mem this
    exact packRs_len (hok.deps _ hm) (hok.cons _ hm)
   have h3 := Nat.mul_le_mul_right 2000 (show L2.length ≤ 8 by rw [hnC]; exact hnC8)
   rw [h1, N_q_roots.out]
   omega
  have HLt : Hid (∀ i ∈ L2, i < 1000) := fun i hi => by
   rw [← hL2] at hi
   have := (RecD.mem_closure.1 hi).lt
   rw [N_x_packs.out] at this
   omega
  have HNew := Lib.hid (New_gr (HK_x.out w2 HO2.out) (HK_q.out w2 HO2.out) (by have := (HOB.out.same HO2.out).size; omega) hs hq 1000 ⟨by decide, by decide⟩ 1000 (by decide))
  have HRng : Hid (∀ r ∈ L, (0 ≤ r.kind ∧ r.kind ≤ 255) ∧ InI64 r.pack ∧ InI64 r.idx ∧ InI64 r.line) := by
   rw [← hL]
   exact rules_range (HK_x.out w2 HO2.out) (HK_q.out w2 HO2.out) hok
  clear hf2 hch hs hok hnC hnL
  go_wp2_with fail
  refine HNew.out.mono ?_
  rintro e W1 ⟨c, bt, bb, gt, gb, G, Bs, rfl, hG, hx', hq', hI', hR', -, -, -, -, -, O4⟩
  rw [hL2] at hI' hR'
  rw [hL] at hR'
  have HO4 := Lib.hid (HO2.out.same O4)
  have HG := Lib.hid hG
  have HI := Lib.hid hI'
  obtain ⟨ax1, cx1, ax2, cx2, nx2, hgx⟩ : ∃ ax1 cx1 ax2 cx2 nx2, G.x1 = .slice ax1 n_x_packs cx1 ∧ G.x2 = .slice ax2 nx2 cx2 := by
   obtain ⟨u1, u2, e12, r1, r2⟩ := hx'
   simp only [List.cons.injEq, and_true] at e12
   obtain ⟨rfl, rfl⟩ := e12
   obtain ⟨a, c, e, -, -⟩ := r1.shape
   obtain ⟨a', c', e', -, -⟩ := r2.shape
   rw [N_x_packs.out] at e
   exact ⟨a, c, a', c', _, e, e'⟩
  obtain ⟨aq, cq, hgq⟩ : ∃ aq cq, G.q = .slice aq n_q_roots cq := by
   obtain ⟨u1, e1, r1⟩ := hq'
   simp only [List.cons.injEq, and_true] at e1
   subst e1
   obtain ⟨a, c, e, -, -⟩ := r1.shape
   rw [N_q_roots.out] at e
   exact ⟨a, c, e⟩
  have HGx := Lib.hid hgx
  have HGq := Lib.hid hgq
  have HRw : Hid (∀ W, Only (fun _ => False) W1 W → RowT 4 RuleC Bs W G.r L) := fun W ho => hR'.keep RuleC.keep (Kp.of0 ho)
  have HRg : Hid (∀ W, Only (fun _ => False) W1 W → Calls Tryz.prog 10 #[.pointer (some ⟨c, 0, none⟩)] W fun e w' => ∃ a cp, e = .returned (.slice a nL cp) ∧ RuRow W w' (.slice a nL cp) L ∧ Only (fun _ => False) W w') := fun W ho =>
   (Rules_gr (HG.out.only0 ho) (HRw.out W ho) (by rw [HLn.out]; omega)).mono fun e w' ⟨v, he, hr, h3⟩ => by
    obtain ⟨a, cp, rfl, -, -⟩ := own_slice hr.1
    rw [HLn.out] at hr he
    exact ⟨a, cp, he, hr, h3⟩
  have HRr : Hid (∀ W, Only (fun _ => False) W1 W → Calls Tryz.prog 22 #[.agg #[.slice a_x_packs n_x_packs c_x_packs, .slice a_x_prefs n_x_prefs c_x_prefs], .agg #[.slice a_q_roots n_q_roots c_q_roots]] W fun e w' => ∃ a cp, e = .returned (.slice a nL cp) ∧ RuRow W w' (.slice a nL cp) L ∧ Only (fun _ => False) W w') := fun W ho => by
   have h0 := Rules13_any (HK_x.out W (HO4.out.same ho)) (HK_q.out W (HO4.out.same ho)) (by rw [hL2]; exact HOk.out)
   rw [hL2, hL] at h0
   refine h0.mono ?_
   rintro e w' ⟨v, he, hr, h3⟩
   obtain ⟨a, cp, rfl, -, -⟩ := own_slice hr.1
   rw [HLn.out] at hr he
   exact ⟨a, cp, he, hr, h3⟩
  clear hG hx' hq' hI' hR' O4 hgx hgq HNew hL2 hL k0 k1 k2
  obtain ⟨k0, k1, k2⟩ := HBox.out W1 HO4.out
  go_wp2_with fail
  clear k0 k1 k2
  refine wp_region_G (n := 7) (E := fun _ => false) (S := fun W => Only (fun _ => False) W1 W) (by kernel_rfl) rfl (by exact (Only.refl _ _).drew) (fun hHeld => ?_)
  refine tqW (i := 0) (v := ?_) rfl (.inr (by assumption)) ?_ ?_
  rotate_left
  ·(intro w; go_simp <;> (try with_reducible rfl))
  try simp only [Act.put, zq1, zq3, zq4, zq5, zq6]
  refine tqK (i := 2) (v := ?_) rfl ?_ ?_
  rotate_left
  ·(intro w hSw; obtain ⟨k0, k1, k2⟩ := HBox.out w (HO4.out.same hSw); go_simp <;> (try with_reducible rfl))
  try simp only [Act.put, zq1, zq2, zq3, zq4, zq5, zq6]
  refine tqK (i := 3) (v := ?_) rfl ?_ ?_
  rotate_left
  ·(intro w hSw; obtain ⟨k0, k1, k2⟩ := HBox.out w (HO4.out.same hSw); go_simp <;> (try with_reducible rfl))
  try simp only [Act.put, zq1, zq2, zq3, zq4, zq5, zq6]
  refine wpAnyG_ready (rs := [1]) (by kernel_rfl) (by simp) ?_
  refine AllReadyG.cons (i := 1) rfl (fun K hK => ?_) ?_
  ·(go_simp; refine (HRg.out _ hHeld).mono ?_; rintro e w5 ⟨a5, cp5, rfl, hr5, o5⟩; try go_wp2_with fail)
   refine hK.out _ _ ?_ (fun hHeld => ?_)
   ·(try dsimp only) <;> (exact Only.same hHeld o5)
   clear hK K
   try simp only [Act.put, zq1, zq2, zq3, zq4, zq5, zq6]
   refine wpAnyG_ready (rs := [4]) (by kernel_rfl) (by simp) ?_
   refine AllReadyG.cons (i := 4) rfl (fun K hK => ?_) ?_
   ·(go_simp; refine (HRr.out _ hHeld).mono ?_; rintro e w6 ⟨a6, cp6, rfl, hr6, o6⟩; try go_wp2_with fail)
    refine hK.out _ _ ?_ (fun hHeld => ?_)
    ·(try dsimp only) <;> (exact Only.same hHeld o6)
    clear hK K
    try simp only [Act.put, zq1, zq2, zq3, zq4, zq5, zq6]
    refine tqW (i := 5) (v := ?_) rfl (.inr (by assumption)) ?_ ?_
    rotate_left
    ·(intro w; go_simp <;> (try with_reducible rfl))
    try simp only [Act.put, zq1, zq2, zq3, zq4, zq5, zq6]
    refine tqW (i := 6) (v := ?_) rfl (.inr (by assumption)) ?_ ?_
    rotate_left
    ·(intro w; go_simp <;> (try with_reducible rfl))
    try simp only [Act.put, zq1, zq2, zq3, zq4, zq5, zq6]
    refine wpAnyG_done (by kernel_rfl) ?_ _
    have HP6 := Lib.hid hHeld
    have HA : Hid (∀ W, Only (fun _ => False) w6 W → RowT 4 RuleC w5.heap.size W (.slice a5 nL cp5) L) := fun W ho => (RuRow.read hr5 HRng.out).keep RuleC.keep (Kp.of0 (o6.same ho))
    have HB : Hid (∀ W, Only (fun _ => False) w6 W → RowT 4 RuleC w6.heap.size W (.slice a6 nL cp6) L) := fun W ho => (RuRow.read hr6 HRng.out).keep RuleC.keep (Kp.of0 ho)
    have HOC : Hid (Only (fun _ => False) w6 w6) := Only.refl _ _
    clear hHeld hr5 hr6 o5 o6
    obtain ⟨k0, k1, k2⟩ := HBox.out w6 (HO4.out.same HP6.out)
    go_wp2_with fail
    go_loopw [30] (fun vi wri => Hid (Only (fun _ => False) w6 wri) ∧ ∃ i : Nat, vi = .int .i64 i ∧ i ≤ nL) (fun v _ => nL - (RowKit.intOf v).toNat)
    case atStart => exact ⟨HOC, 0, rfl, Nat.zero_le _⟩
    case round =>
     obtain ⟨wri, rfl⟩ : ∃ W, W = wr := ⟨_, rfl⟩
     clear HOC
     obtain ⟨HPi, i, rfl, hi⟩ := hrel
     obtain ⟨k0, k1, k2⟩ := HBox.out wri (HO4.out.same (HP6.out.same HPi.out))
     by_cases ci : i < nL
     ·have ewi : IntKind.i64.wrap ((i : Int) + 1) = (i : Int) + 1 := by rw [IntKind.wrap_i64]; omega
      obtain ⟨y, hx⟩ : ∃ y, L[i]? = some y := ⟨_, List.getElem?_eq_getElem (by rw [HLn.out]; exact ci)⟩
      have HX := Lib.hid hx
      clear hx
      obtain ⟨bks, offs, hes, -, HE0s⟩ := RuleC_at (HA.out w6 (Only.refl _ _)) HX.out
      subst hes
      have HEs := Lib.hid HE0s
      clear HE0s
      obtain ⟨bkt, offt, het, -, HE0t⟩ := RuleC_at (HB.out w6 (Only.refl _ _)) HX.out
      subst het
      have HEt := Lib.hid HE0t
      clear HE0t
      go_wp2_with fail
      clear k0 k1 k2
      refine wp_region_G (n := 9) (E := fun _ => false) (S := fun W => Only (fun _ => False) w6 W) (by kernel_rfl) rfl (by exact HPi.out.drew) (fun hHeld => ?_)
      refine tqW (i := 0) (v := ?_) rfl (.inr (by assumption)) ?_ ?_
      rotate_left
      ·(intro w; go_simp <;> (try with_reducible rfl))
      try simp only [Act.put, zq1, zq3, zq4, zq5, zq6]
      refine tqW (i := 1) (v := ?_) rfl (.inr (by assumption)) ?_ ?_
      rotate_left
      ·(intro w; go_simp <;> (try with_reducible rfl))
      try simp only [Act.put, zq1, zq2, zq3, zq4, zq5, zq6]
      refine tqW (i := 2) (v := ?_) rfl (.inr (by assumption)) ?_ ?_
      rotate_left
      ·(intro w; go_simp <;> (try with_reducible rfl))
      try simp only [Act.put, zq1, zq2, zq3, zq4, zq5, zq6]
      refine tqK (i := 3) (v := ?_) rfl ?_ ?_
      rotate_left
      ·(intro w hSw; have hrs := HEs.out w hSw; have gs0 := hrs 0 _ rfl; have gs1 := hrs 1 _ rfl; have gs2 := hrs 2 _ rfl; have gs3 := hrs 3 _ rfl; rw [Nat.add_zero] at gs0; have hrt := HEt.out w hSw; have gt0 := hrt 0 _ rfl; have gt1 := hrt 1 _ rfl; have gt2 := hrt 2 _ rfl; have gt3 := hrt 3 _ rfl; rw [Nat.add_zero] at gt0; go_simp <;> (try with_reducible rfl))
      try simp only [Act.put, zq1, zq2, zq3, zq4, zq5, zq6]
      refine tqW (i := 4) (v := ?_) rfl (.inr (by assumption)) ?_ ?_
      rotate_left
      ·(intro w; go_simp <;> (try with_reducible rfl))
      try simp only [Act.put, zq1, zq2, zq3, zq4, zq5, zq6]
      refine tqW (i := 5) (v := ?_) rfl (.inr (by assumption)) ?_ ?_
      rotate_left
      ·(intro w; go_simp <;> (try with_reducible rfl))
      try simp only [Act.put, zq1, zq2, zq3, zq4, zq5, zq6]
      refine tqW (i := 6) (v := ?_) rfl (.inr (by assumption)) ?_ ?_
      rotate_left
      ·(intro w; go_simp <;> (try with_reducible rfl))
      try simp only [Act.put, zq1, zq2, zq3, zq4, zq5, zq6]
      refine tqK (i := 7) (v := ?_) rfl ?_ ?_
      rotate_left
      ·(intro w hSw; have hrs := HEs.out w hSw; have gs0 := hrs 0 _ rfl; have gs1 := hrs 1 _ rfl; have gs2 := hrs 2 _ rfl; have gs3 := hrs 3 _ rfl; rw [Nat.add_zero] at gs0; have hrt := HEt.out w hSw; have gt0 := hrt 0 _ rfl; have gt1 := hrt 1 _ rfl; have gt2 := hrt 2 _ rfl; have gt3 := hrt 3 _ rfl; rw [Nat.add_zero] at gt0; go_simp <;> (try with_reducible rfl))
      try simp only [Act.put, zq1, zq2, zq3, zq4, zq5, zq6]
      refine tqW (i := 8) (v := ?_) rfl (.inr (by assumption)) ?_ ?_
      rotate_left
      ·(intro w; go_simp <;> (try with_reducible rfl))
      try simp only [Act.put, zq1, zq2, zq3, zq4, zq5, zq6]
      refine wpAnyG_done (by kernel_rfl) ?_ _
      have HP7 := Lib.hid hHeld
      clear hHeld
      go_wp2_with fail
      go_roundw
      case rel => exact ⟨HP7, i + 1, by first | rfl | go_num, by omega⟩
      case measure => simp [RowKit.intOf] <;> omega
     ·obtain rfl : nL = i := by omega
      have HCC := Lib.hid (Closure10_any (HK_x.out wri (HO4.out.same (HP6.out.same HPi.out))) (HK_q.out wri (HO4.out.same (HP6.out.same HPi.out))) (by rw [N_x_packs.out]; omega))
      go_wp2_with fail
      refine HCC.out.mono ?_
      rintro e w9 ⟨vp, rfl, hp1, -, O9⟩
      have HO9a := Lib.hid (HP6.out.same (HPi.out.same O9))
      have hI9 := ints_of_nats hp1 fun i hi => by have := (RecD.mem_closure.1 hi).lt; rw [N_x_packs.out] at this; omega
      rw [HL2.out] at hI9
      obtain ⟨apl, cpl, rfl, -, -⟩ := hI9.shape
      have e9 : (intsOf L2).length = nC := by unfold intsOf; rw [List.length_map]; exact HC2.out
      rw [e9] at hI9 ⊢
      have HIp : Hid (∀ W, Only (fun _ => False) w9 W → Ints W (.slice apl nC cpl) (intsOf L2)) := fun W hW => hI9.only0 hW
      have HOC := HO9a
      have HOC2 : Hid (Only (fun _ => False) w9 w9) := Only.refl _ _
      clear hp1 hI9 e9 HCC O9 k0 k1 k2
      obtain ⟨k0, k1, k2⟩ := HBox.out w9 (HO4.out.same HO9a.out)
      go_wp2_with fail
      go_loopw [49] (fun vi wri => Hid (Only (fun _ => False) W1 wri) ∧ Hid (Only (fun _ => False) w9 wri) ∧ ∃ i : Nat, vi = .int .i64 i ∧ i ≤ n_x_packs) (fun v _ => n_x_packs - (RowKit.intOf v).toNat)
      case atStart => exact ⟨HOC, HOC2, 0, rfl, Nat.zero_le _⟩
      case round =>
       obtain ⟨wri, rfl⟩ : ∃ W, W = wr := ⟨_, rfl⟩
       clear HOC HOC2 k0 k1 k2
       obtain ⟨HOi, HOi2, i, rfl, hi⟩ := hrel
       obtain ⟨k0, k1, k2⟩ := HBox.out wri (HO4.out.same HOi.out)
       by_cases ci : i < n_x_packs
       ·have ewi : IntKind.i64.wrap ((i : Int) + 1) = (i : Int) + 1 := by rw [IntKind.wrap_i64]; omega
        obtain ⟨hb, hhb⟩ : ∃ b, (intsOf L2).contains (i : Int) = b := ⟨_, rfl⟩
        have HH1 := Lib.hid (Has_gr (HG.out.only0 HOi.out) (HI.out.only0 HOi.out) (i : Int))
        rw [hhb] at HH1
        go_wp2_with fail
        refine HH1.out.mono ?_
        rintro e w5 ⟨rfl, O5⟩
        have HO5 := Lib.hid (HOi.out.same O5)
        have HH2 := Lib.hid (Has_any ((HIp.out _ (HOi2.out.same O5))) (i : Int))
        have HQ5 := Lib.hid (HOi2.out.same O5)
        rw [hhb] at HH2
        clear O5 HH1 k0 k1 k2 hhb
        obtain ⟨k0, k1, k2⟩ := HBox.out w5 (HO4.out.same HO5.out)
        go_wp2_with fail
        refine HH2.out.mono ?_
        rintro e w6 ⟨rfl, O6⟩
        have HO6 := Lib.hid (HO5.out.same O6)
        have HQ6 := Lib.hid (HQ5.out.same O6)
        clear O6 HH2 k0 k1 k2
        obtain ⟨k0, k1, k2⟩ := HBox.out w6 (HO4.out.same HO6.out)
        cases hb with
        | true =>
         go_wp2_with fail
         go_roundw
         case rel => exact ⟨HO6, HQ6, i + 1, by first | rfl | go_num, by omega⟩
         case measure => simp [RowKit.intOf] <;> omega
        | false =>
         go_wp2_with fail
         go_roundw
         case rel => exact ⟨HO6, HQ6, i + 1, by first | rfl | go_num, by omega⟩
         case measure => simp [RowKit.intOf] <;> omega
       ·obtain rfl : n_x_packs = i := by omega
        have HIp2 := HIp
        have HIp : Hid (∀ W, Only (fun _ => False) wri W → Ints W (.slice apl nC cpl) (intsOf L2)) := fun W hW => HIp2.out W (HOi2.out.same hW)
        clear HIp2 HOi2
        have HO9 := HOi
        have HPl : Hid (∀ W, Only (fun _ => False) wri W → Calls Tryz.prog 26 #[.pointer (some ⟨c, 0, none⟩)] W fun e w' => ∃ a cp, e = .returned (.slice a nC cp) ∧ Ints w' (.slice a nC cp) (intsOf L2) ∧ Only (fun _ => False) W w') := fun W hW =>
         (Places_gr (HG.out.only0 (HO9.out.same hW)) (HI.out.only0 (HO9.out.same hW)) (by unfold intsOf; rw [List.length_map, HC2.out]; omega)).mono fun e w' ⟨v, he, h1, _, h3⟩ => by
          have h4 := ints_of_nats (l := L2) (v := v) (by simpa [intsOf, natsV, Function.comp_def] using h1) (fun i hi => by have := HLt.out i hi; omega)
          obtain ⟨a, cp, rfl, -, -⟩ := h4.shape
          have e2 : (intsOf L2).length = nC := by unfold intsOf; rw [List.length_map]; exact HC2.out
          rw [e2] at h4 he
          exact ⟨a, cp, he, h4, h3⟩
        have HSm : Hid (∀ W v, Only (fun _ => False) wri W → Ints W v (intsOf L2) → Calls Tryz.prog 25 #[v, .slice apl nC cpl] W fun e w' => e = .returned (.bool true) ∧ Only (fun _ => False) W w') := fun W v hW hv => by
         have h1 := Same_any hv (HIp.out W hW)
         rw [show (intsOf L2 == intsOf L2) = true from by simp] at h1
         exact h1
        have HBu : Hid (∀ W, Only (fun _ => False) wri W → Calls Tryz.prog 15 #[.pointer (some ⟨c, 0, none⟩)] W fun e w' => e = .returned (.pointer (some ⟨bb, 0, none⟩)) ∧ Only (fun _ => False) W w') := fun W hW => (Builder_gr (HG.out.only0 (HO9.out.same hW))).mono fun e w' ⟨he, hw⟩ => ⟨he, by rw [hw]; exact Only.refl _ _⟩
        have HCl : Hid (∀ W, Only (fun _ => False) wri W → Calls Tryz.prog 16 #[.pointer (some ⟨bb, 0, none⟩)] W fun e w' => ∃ a cp, e = .returned (.slice a 0 cp) ∧ Only (fun _ => False) W w') := fun W hW => by
         obtain ⟨V, hV⟩ := (HG.out.only0 (HO9.out.same hW)).bld
         refine (Clauses_any hV).mono ?_
         rintro e w' ⟨v, us, he, hO, ho⟩
         obtain ⟨a, cp, hv, -, -⟩ := hO.intsS.shape
         exact ⟨a, cp, by rw [he, hv]; rfl, ho⟩
        have HRq : Hid (∀ W, Only (fun _ => False) wri W → Calls Tryz.prog 27 #[.pointer (some ⟨c, 0, none⟩)] W fun e w' => e = .returned (.agg #[.slice aq n_q_roots cq]) ∧ Only (fun _ => False) W w') := fun W hW => Request_gr (HG.out.only0 (HO9.out.same hW)) HGq.out
        have HRc : Hid (∀ W, Only (fun _ => False) wri W → Calls Tryz.prog 28 #[.pointer (some ⟨c, 0, none⟩)] W fun e w' => e = .returned (.agg #[.slice ax1 n_x_packs cx1, .slice ax2 nx2 cx2]) ∧ Only (fun _ => False) W w') := fun W hW => Recipe_gr (HG.out.only0 (HO9.out.same hW)) HGx.out.1 HGx.out.2
        have fr := fun W => field_rec0 (.slice ax1 n_x_packs cx1) (.slice ax2 nx2 cx2) W
        have fq := fun W => field_req0 (.slice aq n_q_roots cq) W
        go_wp2_with fail
        clear k0 k1 k2
        refine wp_region_G (n := 35) (E := fun _ => false) (S := fun W => Only (fun _ => False) wri W) (by kernel_rfl) rfl (by exact (Only.refl _ _).drew) (fun hHeld => ?_)
        refine wpAnyG_ready (rs := [0]) (by kernel_rfl) (by simp) ?_
        refine AllReadyG.cons (i := 0) rfl (fun K hK => ?_) ?_
        ·(go_simp; refine (fixed13_any _).mono ?_; rintro e w11 ⟨rfl, o11⟩; try go_wp2_with fail)
         refine hK.out _ _ ?_ (fun hHeld => ?_)
         ·(try dsimp only) <;> (exact Only.same hHeld o11)
         clear hK K
         try simp only [Act.put, zq1, zq2, zq3, zq4, zq5, zq6]
         refine tqW (i := 1) (v := ?_) rfl (.inr (by assumption)) ?_ ?_
         rotate_left
         ·(intro w; go_simp <;> (try with_reducible rfl))
         try simp only [Act.put, zq1, zq2, zq3, zq4, zq5, zq6]
         refine tqW (i := 2) (v := ?_) rfl (.inr (by assumption)) ?_ ?_
         rotate_left
         ·(intro w; go_simp <;> (try with_reducible rfl))
         try simp only [Act.put, zq1, zq2, zq3, zq4, zq5, zq6]
         refine tqW (i := 4) (v := ?_) rfl (.inr (by assumption)) ?_ ?_
         rotate_left
         ·(intro w; go_simp <;> (try with_reducible rfl))
         try simp only [Act.put, zq1, zq2, zq3, zq4, zq5, zq6]
         refine wpAnyG_ready (rs := [3]) (by kernel_rfl) (by simp) ?_
         refine AllReadyG.cons (i := 3) rfl (fun K hK => ?_) ?_
         ·(go_simp; refine (HPl.out _ hHeld).mono ?_; rintro e w12 ⟨ap, cp, rfl, hIp, o12⟩; try go_wp2_with fail)
          refine hK.out _ _ ?_ (fun hHeld => ?_)
          ·(try dsimp only) <;> (exact Only.same hHeld o12)
          clear hK K
          try simp only [Act.put, zq1, zq2, zq3, zq4, zq5, zq6]
          refine wpAnyG_ready (rs := [5]) (by kernel_rfl) (by simp) ?_
          refine AllReadyG.cons (i := 5) rfl (fun K hK => ?_) ?_
          ·(go_simp; refine (HSm.out _ _ hHeld hIp).mono ?_; rintro e w13 ⟨rfl, o13⟩; try go_wp2_with fail)
           refine hK.out _ _ ?_ (fun hHeld => ?_)
           ·(try dsimp only) <;> (exact Only.same hHeld o13)
           clear hK K
           try simp only [Act.put, zq1, zq2, zq3, zq4, zq5, zq6]
           refine tqW (i := 6) (v := ?_) rfl (.inr (by assumption)) ?_ ?_
           rotate_left
           ·(intro w; go_simp <;> (try with_reducible rfl))
           try simp only [Act.put, zq1, zq2, zq3, zq4, zq5, zq6]
           refine tqW (i := 7) (v := ?_) rfl (.inr (by assumption)) ?_ ?_
           rotate_left
           ·(intro w; go_simp <;> (try with_reducible rfl))
           try simp only [Act.put, zq1, zq2, zq3, zq4, zq5, zq6]
           refine tqW (i := 8) (v := ?_) rfl (.inr (by assumption)) ?_ ?_
           rotate_left
           ·(intro w; go_simp <;> (try with_reducible rfl))
           try simp only [Act.put, zq1, zq2, zq3, zq4, zq5, zq6]
           refine wpAnyG_ready (rs := [9]) (by kernel_rfl) (by simp) ?_
           refine AllReadyG.cons (i := 9) rfl (fun K hK => ?_) ?_
           ·(go_simp; refine (HBu.out _ hHeld).mono ?_; rintro e w14 ⟨rfl, o14⟩; try go_wp2_with fail)
            refine hK.out _ _ ?_ (fun hHeld => ?_)
            ·(try dsimp only) <;> (exact Only.same hHeld o14)
            clear hK K
            try simp only [Act.put, zq1, zq2, zq3, zq4, zq5, zq6]
            refine wpAnyG_ready (rs := [10]) (by kernel_rfl) (by simp) ?_
            refine AllReadyG.cons (i := 10) rfl (fun K hK => ?_) ?_
            ·(go_simp; refine (HCl.out _ hHeld).mono ?_; rintro e w15 ⟨ac, cc, rfl, o15⟩; try go_wp2_with fail)
             refine hK.out _ _ ?_ (fun hHeld => ?_)
             ·(try dsimp only) <;> (exact Only.same hHeld o15)
             clear hK K
             try simp only [Act.put, zq1, zq2, zq3, zq4, zq5, zq6]
             refine tqW (i := 11) (v := ?_) rfl (.inr (by assumption)) ?_ ?_
             rotate_left
             ·(intro w; go_simp <;> (try with_reducible rfl))
             try simp only [Act.put, zq1, zq2, zq3, zq4, zq5, zq6]
             refine tqW (i := 12) (v := ?_) rfl (.inr (by assumption)) ?_ ?_
             rotate_left
             ·(intro w; go_simp <;> (try with_reducible rfl))
             try simp only [Act.put, zq1, zq2, zq3, zq4, zq5, zq6]
             refine tqW (i := 13) (v := ?_) rfl (.inr (by assumption)) ?_ ?_
             rotate_left
             ·(intro w; go_simp <;> (try with_reducible rfl))
             try simp only [Act.put, zq1, zq2, zq3, zq4, zq5, zq6]
             refine tqW (i := 14) (v := ?_) rfl (.inr (by assumption)) ?_ ?_
             rotate_left
             ·(intro w; go_simp <;> (try with_reducible rfl))
             try simp only [Act.put, zq1, zq2, zq3, zq4, zq5, zq6]
             refine tqW (i := 15) (v := ?_) rfl (.inr (by assumption)) ?_ ?_
             rotate_left
             ·(intro w; go_simp <;> (try with_reducible rfl))
             try simp only [Act.put, zq1, zq2, zq3, zq4, zq5, zq6]
             refine tqW (i := 19) (v := ?_) rfl (.inr (by assumption)) ?_ ?_
             rotate_left
             ·(intro w; go_simp <;> (try with_reducible rfl))
             try simp only [Act.put, zq1, zq2, zq3, zq4, zq5, zq6]
             refine tqK (i := 20) (v := ?_) rfl ?_ ?_
             rotate_left
             ·(intro w hSw; obtain ⟨k0, k1, k2⟩ := HBox.out w (HO4.out.same (HO9.out.same hSw)); go_simp <;> (try with_reducible rfl))
             try simp only [Act.put, zq1, zq2, zq3, zq4, zq5, zq6]
             refine tqW (i := 21) (v := ?_) rfl (.inr (by assumption)) ?_ ?_
             rotate_left
             ·(intro w; go_simp <;> (try with_reducible rfl))
             try simp only [Act.put, zq1, zq2, zq3, zq4, zq5, zq6]
             refine wpAnyG_ready (rs := [16]) (by kernel_rfl) (by simp) ?_
             refine AllReadyG.cons (i := 16) rfl (fun K hK => ?_) ?_
             ·(go_simp; refine (HRq.out _ hHeld).mono ?_; rintro e w16 ⟨rfl, o16⟩; try go_wp2_with fail)
              refine hK.out _ _ ?_ (fun hHeld => ?_)
              ·(try dsimp only) <;> (exact Only.same hHeld o16)
              clear hK K
              try simp only [Act.put, zq1, zq2, zq3, zq4, zq5, zq6]
              refine tqW (i := 17) (v := ?_) rfl (.inr (by assumption)) ?_ ?_
              rotate_left
              ·(intro w; go_simp <;> (try with_reducible rfl))
              try simp only [Act.put, zq1, zq2, zq3, zq4, zq5, zq6]
              refine tqW (i := 18) (v := ?_) rfl (.inr (by assumption)) ?_ ?_
              rotate_left
              ·(intro w; go_simp <;> (try with_reducible rfl))
              try simp only [Act.put, zq1, zq2, zq3, zq4, zq5, zq6]
              refine tqW (i := 22) (v := ?_) rfl (.inr (by assumption)) ?_ ?_
              rotate_left
              ·(intro w; go_simp <;> (try with_reducible rfl))
              try simp only [Act.put, zq1, zq2, zq3, zq4, zq5, zq6]
              refine tqW (i := 23) (v := ?_) rfl (.inr (by assumption)) ?_ ?_
              rotate_left
              ·(intro w; go_simp <;> (try with_reducible rfl))
              try simp only [Act.put, zq1, zq2, zq3, zq4, zq5, zq6]
              refine tqW (i := 24) (v := ?_) rfl (.inr (by assumption)) ?_ ?_
              rotate_left
              ·(intro w; go_simp <;> (try with_reducible rfl))
              try simp only [Act.put, zq1, zq2, zq3, zq4, zq5, zq6]
              refine tqW (i := 25) (v := ?_) rfl (.inr (by assumption)) ?_ ?_
              rotate_left
              ·(intro w; go_simp <;> (try with_reducible rfl))
              try simp only [Act.put, zq1, zq2, zq3, zq4, zq5, zq6]
              refine tqW (i := 29) (v := ?_) rfl (.inr (by assumption)) ?_ ?_
              rotate_left
              ·(intro w; go_simp <;> (try with_reducible rfl))
              try simp only [Act.put, zq1, zq2, zq3, zq4, zq5, zq6]
              refine tqK (i := 30) (v := ?_) rfl ?_ ?_
              rotate_left
              ·(intro w hSw; obtain ⟨k0, k1, k2⟩ := HBox.out w (HO4.out.same (HO9.out.same hSw)); go_simp <;> (try with_reducible rfl))
              try simp only [Act.put, zq1, zq2, zq3, zq4, zq5, zq6]
              refine tqW (i := 31) (v := ?_) rfl (.inr (by assumption)) ?_ ?_
              rotate_left
              ·(intro w; go_simp <;> (try with_reducible rfl))
              try simp only [Act.put, zq1, zq2, zq3, zq4, zq5, zq6]
              refine wpAnyG_ready (rs := [26]) (by kernel_rfl) (by simp) ?_
              refine AllReadyG.cons (i := 26) rfl (fun K hK => ?_) ?_
              ·(go_simp; refine (HRc.out _ hHeld).mono ?_; rintro e w17 ⟨rfl, o17⟩; try go_wp2_with fail)
               refine hK.out _ _ ?_ (fun hHeld => ?_)
               ·(try dsimp only) <;> (exact Only.same hHeld o17)
               clear hK K
               try simp only [Act.put, zq1, zq2, zq3, zq4, zq5, zq6]
               refine tqW (i := 27) (v := ?_) rfl (.inr (by assumption)) ?_ ?_
               rotate_left
               ·(intro w; go_simp <;> (try with_reducible rfl))
               try simp only [Act.put, zq1, zq2, zq3, zq4, zq5, zq6]
               refine tqW (i := 28) (v := ?_) rfl (.inr (by assumption)) ?_ ?_
               rotate_left
               ·(intro w; go_simp <;> (try with_reducible rfl))
               try simp only [Act.put, zq1, zq2, zq3, zq4, zq5, zq6]
               refine tqW (i := 32) (v := ?_) rfl (.inr (by assumption)) ?_ ?_
               rotate_left
               ·(intro w; go_simp <;> (try with_reducible rfl))
               try simp only [Act.put, zq1, zq2, zq3, zq4, zq5, zq6]
               refine tqW (i := 33) (v := ?_) rfl (.inr (by assumption)) ?_ ?_
               rotate_left
               ·(intro w; go_simp <;> (try with_reducible rfl))
               try simp only [Act.put, zq1, zq2, zq3, zq4, zq5, zq6]
               refine tqW (i := 34) (v := ?_) rfl (.inr (by assumption)) ?_ ?_
               rotate_left
               ·(intro w; go_simp <;> (try with_reducible rfl))
               try simp only [Act.put, zq1, zq2, zq3, zq4, zq5, zq6]
               refine wpAnyG_done (by kernel_rfl) ?_ _
               have HOf := Lib.hid hHeld
               clear hHeld
               go_wp2_with fail
               go_ret
               exact ⟨rfl, HOB.out.same (HO4.out.same (HO9.out.same HOf.out))⟩
              exact AllReadyG.nil
             exact AllReadyG.nil
            exact AllReadyG.nil
           exact AllReadyG.nil
          exact AllReadyG.nil
         exact AllReadyG.nil
        exact AllReadyG.nil
   exact AllReadyG.nil
  exact AllReadyG.nil
end
end Go.Proofs.YtbapkcnfacklaaaGreat

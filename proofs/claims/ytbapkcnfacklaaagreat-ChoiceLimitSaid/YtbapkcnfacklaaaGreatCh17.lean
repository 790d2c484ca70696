/- ChoiceLimit: the walk. Printed by gen_ch16.py. -/
import Derived.Test.YtbapkcnfacklaaaGreatCh16
set_option linter.unusedVariables false
namespace Go.Proofs.YtbapkcnfacklaaaGreat
open Go.RowKit
section
variable {w w' : World} {B : Nat}
set_option maxRecDepth 100000 in
set_option maxHeartbeats 4000000 in
theorem ChoiceLimit_walk {csx : List Value} {x : RecD} (hx : RecC B w csx x) {csq : List Value} {q : ReqD} (hq : ReqC B w csq q) {vby_ : Value} {by_ : List Nat} (hby_ : RowT 1 U8C B w vby_ by_) {limit : Int} (ht1 : 0 ≤ limit ∧ limit ≤ 255) (hBw : B ≤ w.heap.size) :
  Calls Tryz.prog 5 #[.agg csx.toArray, .agg csq.toArray, vby_, .int .u8 limit] w fun e w' => e = .returned (.bool true) ∧ Only (fun _ => False) w w' := by
 have HH_x := Lib.hid hx
 obtain ⟨u1, u2, rfl, r1, r2⟩ := hx
 obtain ⟨a_x_packs, c_x_packs, rfl, g_x_packs, h_x_packs⟩ := r1.shape
 obtain ⟨n_x_packs, e1⟩ : ∃ n, x.packs.length = n := ⟨_, rfl⟩
 have N_x_packs := Lib.hid e1
 obtain ⟨a_x_prefs, c_x_prefs, rfl, g_x_prefs, h_x_prefs⟩ := r2.shape
 obtain ⟨n_x_prefs, e2⟩ : ∃ n, x.prefs.length = n := ⟨_, rfl⟩
 have N_x_prefs := Lib.hid e2
 rw [e1, e2] at HH_x
 rw [e1] at r1 g_x_packs
 have RR_x_packs := Lib.hid r1
 rw [e2] at r2 g_x_prefs
 have RR_x_prefs := Lib.hid r2
 rw [e1, e2]
 clear e1 e2 r1 r2
 have HH_q := Lib.hid hq
 obtain ⟨u1, rfl, r1⟩ := hq
 obtain ⟨a_q_roots, c_q_roots, rfl, g_q_roots, h_q_roots⟩ := r1.shape
 obtain ⟨n_q_roots, e1⟩ : ∃ n, q.roots.length = n := ⟨_, rfl⟩
 have N_q_roots := Lib.hid e1
 rw [e1] at HH_q
 rw [e1] at r1 g_q_roots
 have RR_q_roots := Lib.hid r1
 rw [e1]
 clear e1 r1
 obtain ⟨a_by_, c_by_, rfl, g_by_, g2_by_⟩ := hby_.shape
 obtain ⟨n_by_, e1⟩ : ∃ n, by_.length = n := ⟨_, rfl⟩
 have N_by_ := Lib.hid e1
 rw [e1] at hby_ g_by_ ⊢
 have RR_by_ := Lib.hid hby_
 clear e1 hby_
 obtain ⟨W0, hW0⟩ : ∃ W0, W0 = ((w.alloc (.cells #[.slice a_x_packs n_x_packs c_x_packs, .slice a_x_prefs n_x_prefs c_x_prefs] 25)).alloc (.cells #[.slice a_q_roots n_q_roots c_q_roots] 28)) := ⟨_, rfl⟩
 have HOB : Hid (Only (fun _ => False) w W0) := by rw [hW0]; exact ((Only.refl _ _).alloc _).alloc _
 have HSz : Hid (W0.heap.size = w.heap.size + 2) := by rw [hW0]; simp [Hid]
 have HBox : Hid (∀ W, Only (fun _ => False) W0 W → W.cell? ⟨w.heap.size, 0, none⟩ = some (.slice a_x_packs n_x_packs c_x_packs) ∧ W.cell? ⟨w.heap.size, 1, none⟩ = some (.slice a_x_prefs n_x_prefs c_x_prefs) ∧ W.cell? ⟨w.heap.size + 1, 0, none⟩ = some (.slice a_q_roots n_q_roots c_q_roots)) := fun W ho => by
  have b0 : W0.heap[w.heap.size]? = some (.cells #[.slice a_x_packs n_x_packs c_x_packs, .slice a_x_prefs n_x_prefs c_x_prefs] 25) := by rw [hW0]; exact alloc_block (alloc_at rfl) _
  have d0 := only_block b0 ho (fun f => f)
  have b1 : W0.heap[w.heap.size + 1]? = some (.cells #[.slice a_q_roots n_q_roots c_q_roots] 28) := by rw [hW0]; exact alloc_at (by simp)
  have d1 := only_block b1 ho (fun f => f)
  exact ⟨by rw [cell_block d0]; rfl, by rw [cell_block d0]; rfl, by rw [cell_block d1]; rfl⟩
 have HK_x : Hid (∀ W, Only (fun _ => False) W0 W → RecC B W [.slice a_x_packs n_x_packs c_x_packs, .slice a_x_prefs n_x_prefs c_x_prefs] x) := fun W ho => RecC.keep HH_x.out (Kp.of0 (HOB.out.same ho) : Kp B w W)
 have HR_x_packs : Hid (∀ W, Only (fun _ => False) W0 W → RowT 8 PackC B W (.slice a_x_packs n_x_packs c_x_packs) x.packs) := fun W ho => RR_x_packs.out.keep PackC.keep (Kp.of0 (HOB.out.same ho))
 clear RR_x_packs
 have HR_x_prefs : Hid (∀ W, Only (fun _ => False) W0 W → RowT 3 PrefC B W (.slice a_x_prefs n_x_prefs c_x_prefs) x.prefs) := fun W ho => RR_x_prefs.out.keep PrefC.keep (Kp.of0 (HOB.out.same ho))
 clear RR_x_prefs
 clear HH_x
 have HK_q : Hid (∀ W, Only (fun _ => False) W0 W → ReqC B W [.slice a_q_roots n_q_roots c_q_roots] q) := fun W ho => ReqC.keep HH_q.out (Kp.of0 (HOB.out.same ho) : Kp B w W)
 have HR_q_roots : Hid (∀ W, Only (fun _ => False) W0 W → RowT 4 RootC B W (.slice a_q_roots n_q_roots c_q_roots) q.roots) := fun W ho => RR_q_roots.out.keep RootC.keep (Kp.of0 (HOB.out.same ho))
 clear RR_q_roots
 clear HH_q
 have HR_by_ : Hid (∀ W, Only (fun _ => False) W0 W → RowT 1 U8C B W (.slice a_by_ n_by_ c_by_) by_) := fun W ho => RR_by_.out.keep U8C.keep (Kp.of0 (HOB.out.same ho))
 clear RR_by_
 have HGt := Lib.hid (GreatL13_any (HK_x.out W0 (Only.refl _ _)) (HK_q.out W0 (Only.refl _ _)))
 obtain ⟨k0, k1, k2⟩ := HBox.out W0 (Only.refl _ _)
 rw [hW0] at k0 k1 k2
 go_enter Tryz.func5, Tryz.ntmps5
 go_wp2_with fail
 rw [← hW0] at k0 k1 k2 ⊢
 clear hW0
 refine HGt.out.mono ?_
 rintro e w2 ⟨b2, rfl, hf2, O2⟩
 have HO2 := Lib.hid O2
 clear O2 HGt k0 k1 k2
 obtain ⟨k0, k1, k2⟩ := HBox.out w2 HO2.out
 cases b2 with
 | true =>
  clear hf2
  go_wp2_with fail
  refine (fixed13_any _).mono ?_
  rintro e w9 ⟨rfl, O9⟩
  have HO9 := Lib.hid (HO2.out.same O9)
  clear O9
  go_wp2_with fail
  go_ret
  exact ⟨rfl, HOB.out.same HO9.out⟩
 | false =>
  replace hf2 := hf2 rfl
  obtain ⟨lm, rfl⟩ : ∃ t : Nat, limit = t := ⟨limit.toNat, by omega⟩
  obtain ⟨hs, hq, hch⟩ := hf2
  obtain ⟨L2, hL2⟩ : ∃ l, x.closure q.names = l := ⟨_, rfl⟩
  have HL2 := Lib.hid hL2
  have hlt : ∀ p ∈ L2, p < x.packs.length := fun p hp => by rw [← hL2] at hp; exact (RecD.mem_closure.1 hp).lt
  have hnd : L2.Nodup := by rw [← hL2]; exact x.closure_nodup _
  have hlen : L2.length ≤ 1000 := by have := Cho.small_len hch hlt hnd; omega
  have hmid := smallMid hch
  have hgr := smallGR hs hq hch by_
  rw [hL2] at hgr
  have HSc := Lib.hid hch
  have HLt := Lib.hid hlt
  have HMd := Lib.hid hmid
  have HGr := Lib.hid hgr
  have HNew := Lib.hid (New_gr (HK_x.out w2 HO2.out) (HK_q.out w2 HO2.out) (Nat.le_trans hBw (HOB.out.same HO2.out).size) hs hq 5000 ⟨by decide, by decide⟩ 5000 (by decide))
  go_wp2_with fail
  refine HNew.out.mono ?_
  rintro e W1 ⟨ca, bta, bba, gta, gba, Ga, Bsa, rfl, hG, hx', hq', hI', hR', hM, -, hB3, -, hB5, O4⟩
  rw [hL2] at hI'
  have HOW1 := Lib.hid (HO2.out.same O4)
  have hsz := HO2.out.size
  have HMa : Hid (∀ k, Mine gta k ∨ Mine gba k → W0.heap.size ≤ k) := fun k hk => by have := hM k hk; omega
  have HMwa : Hid (∀ k, Mine gta k ∨ Mine gba k → w2.heap.size ≤ k) := fun k hk => by have := hM k hk; omega
  have HCh := Lib.hid (Choices_gr hG hx' hI' hlt hmid hM hB5 hlen)
  clear hG hx' hq' hI' hR' hM hB3 hB5 O4 HNew
  obtain ⟨k0, k1, k2⟩ := HBox.out W1 HOW1.out
  go_wp2_with fail
  refine HCh.out.mono ?_
  rintro e w3 ⟨rfl, gt2a, gb2a, hG3, -, -, O5⟩
  obtain ⟨S, hS⟩ : ∃ S, TB.choices (Cho.T5, Cho.B0) x L2 = S := ⟨_, rfl⟩
  have hG3' : GrAt w3 gt2a gb2a ca bta bba Ga S.1 S.2 := by rw [← hS]; exact hG3
  have HGa := Lib.hid hG3'
  have HS := Lib.hid hS
  have HOw3 : Hid (Only (fun _ => False) W0 w3) := HOW1.out.trans O5 (fun k hk => .inr (HMa.out k hk))
  clear O5 hG3 hG3' hS HCh hsz
  clear k0 k1 k2
  obtain ⟨k0, k1, k2⟩ := HBox.out w3 HOw3.out
  have HNew := Lib.hid (New_gr (HK_x.out w3 HOw3.out) (HK_q.out w3 HOw3.out) (Nat.le_trans hBw (HOB.out.same HOw3.out).size) hs hq (lm : Int) ⟨by omega, by omega⟩ lm (by omega))
  go_wp2_with fail
  refine HNew.out.mono ?_
  rintro e W4 ⟨cg, btg, bbg, gtg, gbg, Gg, Bsg, rfl, hG, hx', hq', hI', hR', hM, -, hB3, -, hB5, O4⟩
  rw [hL2] at hI'
  have HOW4 := Lib.hid (HOw3.out.same O4)
  have hsz := HOw3.out.size
  have HMg : Hid (∀ k, Mine gtg k ∨ Mine gbg k → W0.heap.size ≤ k) := fun k hk => by have := hM k hk; omega
  have HMwg : Hid (∀ k, Mine gtg k ∨ Mine gbg k → w3.heap.size ≤ k) := fun k hk => by have := hM k hk; omega
  have HCh := Lib.hid (Choices_gr hG hx' hI' hlt hmid hM hB5 hlen)
  have HO3W := Lib.hid O4
  clear hG hx' hq' hI' hR' hM hB3 hB5 O4 HNew
  clear k0 k1 k2
  obtain ⟨k0, k1, k2⟩ := HBox.out W4 HOW4.out
  go_wp2_with fail
  refine HCh.out.mono ?_
  rintro e w3b ⟨rfl, gt2g, gb2g, hG3, -, -, O5⟩
  obtain ⟨R, hR⟩ : ∃ S, TB.choices (Cho.TL lm, Cho.B0) x L2 = S := ⟨_, rfl⟩
  have hG3' : GrAt w3b gt2g gb2g cg btg bbg Gg R.1 R.2 := by rw [← hR]; exact hG3
  have HGg := Lib.hid hG3'
  have HR := Lib.hid hR
  have HOw3b : Hid (Only (fun _ => False) W0 w3b) := HOW4.out.trans O5 (fun k hk => .inr (HMg.out k hk))
  have HO33 : Hid (Only (fun _ => False) w3 w3b) := HO3W.out.trans O5 (fun k hk => .inr (HMwg.out k hk))
  obtain ⟨l1, l2, l3, l4, l5⟩ := Cho.choices_lim hch hlt hnd by_ (L := lm) (by omega) HR.out.symm HS.out.symm
  clear O5 hG3 hG3' hR HCh hs hq hch hlt hnd hlen hmid hgr hsz
  clear k0 k1 k2
  obtain ⟨k0, k1, k2⟩ := HBox.out w3b HOw3b.out
  have HOf := Lib.hid (Of_any (HK_x.out w3b HOw3b.out) (HK_q.out w3b HOw3b.out) (HR_by_.out w3b HOw3b.out) HMd.out (by rw [HL2.out]; exact HLt.out) (Nat.le_trans hBw (HOB.out.same HOw3b.out).size))
  rw [HL2.out] at HOf
  go_wp2_with fail
  clear k0 k1 k2
  refine HOf.out.mono ?_
  rintro e w4 ⟨csm, rfl, hGm, O6⟩
  have HO4 := Lib.hid (HOw3b.out.same O6)
  have HMo := Lib.hid (Model_any hGm (HGg.out.only0 O6) HGr.out (by rw [← HR.out]; exact atoms_ok HSc.out HLt.out rfl _))
  have HO34 := Lib.hid O6
  clear O6 hGm HOf
  go_wp2_with fail
  refine HMo.out.mono ?_
  rintro e w5 ⟨gm, rfl, hV, hgm, O7⟩
  have HO5 := Lib.hid (HO4.out.same O7)
  have HO35 := Lib.hid (HO34.out.same O7)
  obtain ⟨nS, hnS⟩ : ∃ n, R.1.l.length = n := ⟨_, rfl⟩
  rw [hnS] at hV ⊢
  have HNS := Lib.hid hnS
  obtain ⟨md, hmd⟩ : ∃ m : List Bool, R.1.l.map (soC (gOf x q L2 by_).c) = m := ⟨_, rfl⟩
  have HMd2 := Lib.hid hmd
  have hV' : w5.ownsRow 0 4 1 (.slice (some ⟨gm, 0, none⟩) nS nS) nS (md.map Value.bool) := by rw [← hmd]; exact hV
  have HV := Lib.hid hV'
  have HGm : Hid (W0.heap.size ≤ gm) := Nat.le_trans HO4.out.size hgm
  clear O7 hV hV' hgm hnS hmd HMo
  have HG5a := Lib.hid (HGa.out.only0 (HO33.out.same HO35.out))
  have HG5g := Lib.hid (HGg.out.only0 HO35.out)
  obtain ⟨nA, hnA⟩ : ∃ n, S.1.l.length = n := ⟨_, rfl⟩
  have HNA := Lib.hid hnA
  rw [hnA] at l2 l5
  rw [HNS.out] at l4
  clear hnA
  have HTa : Hid (∀ W, Only (fun _ => False) w5 W → Calls Tryz.prog 18 #[.pointer (some ⟨ca, 0, none⟩)] W fun e w' => e = .returned (.pointer (some ⟨bta, 0, none⟩)) ∧ w' = W) := fun W hW => Table_gr (HG5a.out.only0 hW)
  have HLna : Hid (∀ W, Only (fun _ => False) w5 W → Calls Tryz.prog 21 #[.pointer (some ⟨bta, 0, none⟩)] W fun e w' => e = .returned (.int .i64 (nA : Int)) ∧ w' = W) := fun W hW => by
   obtain ⟨V, hV⟩ := (HG5a.out.only0 hW).tab
   have h := tabLen_any hV
   rw [HNA.out] at h
   exact h
  have HTg : Hid (∀ W, Only (fun _ => False) w5 W → Calls Tryz.prog 18 #[.pointer (some ⟨cg, 0, none⟩)] W fun e w' => e = .returned (.pointer (some ⟨btg, 0, none⟩)) ∧ w' = W) := fun W hW => Table_gr (HG5g.out.only0 hW)
  have HLng : Hid (∀ W, Only (fun _ => False) w5 W → Calls Tryz.prog 21 #[.pointer (some ⟨btg, 0, none⟩)] W fun e w' => e = .returned (.int .i64 (nS : Int)) ∧ w' = W) := fun W hW => by
   obtain ⟨V, hV⟩ := (HG5g.out.only0 hW).tab
   have h := tabLen_any hV
   rw [HNS.out] at h
   exact h
  have HBg : Hid (∀ W, Only (fun _ => False) w5 W → Calls Tryz.prog 15 #[.pointer (some ⟨cg, 0, none⟩)] W fun e w' => e = .returned (.pointer (some ⟨bbg, 0, none⟩)) ∧ w' = W) := fun W hW => Builder_gr (HG5g.out.only0 hW)
  have HBd : Hid (∀ W, Only (fun _ => False) w5 W → Calls Tryz.prog 17 #[.pointer (some ⟨bbg, 0, none⟩)] W fun e w' => e = .returned (.bool false) ∧ w' = W) := fun W hW => by
   obtain ⟨V, hV⟩ := (HG5g.out.only0 hW).bld
   have h := gBad_any hV
   rw [l1] at h
   exact h
  have HCl : Hid (∀ W, Only (fun _ => False) w5 W → Calls Tryz.prog 16 #[.pointer (some ⟨bbg, 0, none⟩)] W fun e w' => ∃ v us, e = .returned v ∧ OwnS W w' v us R.2.cls ∧ Only (fun _ => False) W w') := fun W hW => by
   obtain ⟨V, hV⟩ := (HG5g.out.only0 hW).bld
   exact Clauses_any hV
  have HBl : Hid (md.length = nS) := by rw [← HMd2.out, List.length_map]; exact HNS.out
  have HBo : Hid (∀ W, Only (fun _ => False) w5 W → Bools W (.slice (some ⟨gm, 0, none⟩) nS nS) md) := fun W hW => (Bools.of_own (by rw [HBl.out]; exact HV.out) : Bools w5 _ md).only0 hW
  have HHd : Hid (Cnf.holdsB R.2.cls md = true) := by rw [← HMd2.out]; exact l3
  obtain ⟨fb, hfb⟩ : ∃ b : Bool, decide (lm < nA) = b := ⟨_, rfl⟩
  rw [hfb] at l2
  have HFg : Hid (∀ W, Only (fun _ => False) w5 W → Calls Tryz.prog 19 #[.pointer (some ⟨btg, 0, none⟩)] W fun e w' => e = .returned (.bool fb) ∧ w' = W) := fun W hW => by
   obtain ⟨V, hV⟩ := (HG5g.out.only0 hW).tab
   have h := tabFull_any hV
   rw [l2] at h
   exact h
  have hle : (nS : Int) ≤ (lm : Int) := by omega
  clear l1 l2 l3
  go_wp2_with fail
  refine (HTa.out w5 (Only.refl _ _)).mono ?_
  rintro e w6 ⟨rfl, rfl⟩
  go_wp2_with fail
  refine (HLna.out w6 (Only.refl _ _)).mono ?_
  rintro e w7 ⟨rfl, rfl⟩
  by_cases hlm : lm < nA
  ·have hb1 : fb = true := by rw [← hfb]; exact decide_eq_true hlm
   subst hb1
   clear hfb
   go_wp2_with fail
   refine (fixed13_any _).mono ?_
   rintro e w9 ⟨rfl, O9⟩
   have HO9 := Lib.hid (HO5.out.same O9)
   have HO59 := Lib.hid O9
   clear O9
   go_wp2_with fail
   refine (HTg.out w9 HO59.out).mono ?_
   rintro e w10 ⟨rfl, rfl⟩
   go_wp2_with fail
   refine (HFg.out w10 HO59.out).mono ?_
   rintro e w11 ⟨rfl, rfl⟩
   go_wp2_with fail
   refine (HTg.out w11 HO59.out).mono ?_
   rintro e w12 ⟨rfl, rfl⟩
   go_wp2_with fail
   refine (HLng.out w12 HO59.out).mono ?_
   rintro e w13 ⟨rfl, rfl⟩
   go_wp2_with fail
   refine (HBg.out w13 HO59.out).mono ?_
   rintro e w14 ⟨rfl, rfl⟩
   go_wp2_with fail
   refine (HBd.out w14 HO59.out).mono ?_
   rintro e w15 ⟨rfl, rfl⟩
   go_wp2_with fail
   refine (HBg.out w15 HO59.out).mono ?_
   rintro e w16 ⟨rfl, rfl⟩
   go_wp2_with fail
   refine (HCl.out w16 HO59.out).mono ?_
   rintro e w17 ⟨va, us, rfl, hOw, O17⟩
   have HHo := Lib.hid (Holds_any hOw.intsS (HBo.out w17 (HO59.out.same O17)) true HHd.out)
   have HO17 := Lib.hid (HO9.out.same O17)
   obtain ⟨av, cv, rfl, -, -⟩ := own_slice hOw.row
   obtain ⟨nu, hnu⟩ : ∃ n, us.length = n := ⟨_, rfl⟩
   rw [hnu] at HHo ⊢
   clear O17 hOw hnu
   go_wp2_with fail
   refine HHo.out.mono ?_
   rintro e w18 ⟨rfl, rfl⟩
   go_wp2_with fail
   go_ret
   exact ⟨rfl, HOB.out.same HO17.out⟩
  ·have hb1 : fb = false := by rw [← hfb]; exact decide_eq_false hlm
   subst hb1
   clear hfb
   go_wp2_with fail
   refine (fixed13_any _).mono ?_
   rintro e w9 ⟨rfl, O9⟩
   have HO9 := Lib.hid (HO5.out.same O9)
   have HO59 := Lib.hid O9
   clear O9
   go_wp2_with fail
   refine (HTg.out w9 HO59.out).mono ?_
   rintro e w10 ⟨rfl, rfl⟩
   go_wp2_with fail
   refine (HFg.out w10 HO59.out).mono ?_
   rintro e w11 ⟨rfl, rfl⟩
   go_wp2_with fail
   refine (HTg.out w11 HO59.out).mono ?_
   rintro e w12 ⟨rfl, rfl⟩
   go_wp2_with fail
   refine (HLng.out w12 HO59.out).mono ?_
   rintro e w13 ⟨rfl, rfl⟩
   go_wp2_with fail
   refine (HBg.out w13 HO59.out).mono ?_
   rintro e w14 ⟨rfl, rfl⟩
   go_wp2_with fail
   refine (HBd.out w14 HO59.out).mono ?_
   rintro e w15 ⟨rfl, rfl⟩
   go_wp2_with fail
   refine (HBg.out w15 HO59.out).mono ?_
   rintro e w16 ⟨rfl, rfl⟩
   go_wp2_with fail
   refine (HCl.out w16 HO59.out).mono ?_
   rintro e w17 ⟨va, us, rfl, hOw, O17⟩
   have HHo := Lib.hid (Holds_any hOw.intsS (HBo.out w17 (HO59.out.same O17)) true HHd.out)
   have HO17 := Lib.hid (HO9.out.same O17)
   obtain ⟨av, cv, rfl, -, -⟩ := own_slice hOw.row
   obtain ⟨nu, hnu⟩ : ∃ n, us.length = n := ⟨_, rfl⟩
   rw [hnu] at HHo ⊢
   clear O17 hOw hnu
   go_wp2_with fail
   refine HHo.out.mono ?_
   rintro e w18 ⟨rfl, rfl⟩
   go_wp2_with fail
   go_ret
   exact ⟨rfl, HOB.out.same HO17.out⟩
end
end Go.Proofs.YtbapkcnfacklaaaGreat

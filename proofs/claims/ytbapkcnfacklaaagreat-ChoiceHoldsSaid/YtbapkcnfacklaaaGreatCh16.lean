/- ChoiceHolds: the walk. Printed by gen_ch16.py. -/
import Derived.Test.YtbapkcnfacklaaaGreatGdB
import Derived.Test.YtbapkcnfacklaaaGreatAtoms5
import Derived.Test.YtbapkcnfacklaaaGreatChC
set_option linter.unusedVariables false
namespace Go.Proofs.YtbapkcnfacklaaaGreat
open Go.RowKit
section
variable {w w' : World} {B : Nat}
theorem gBad_any {g : Tag} {b : Nat} {V : BldV} {B : Bld} (H : BldAt w g b V B) : Calls Tryz.prog 17 #[.pointer (some ⟨b, 0, none⟩)] w fun e w' => e = .returned (.bool B.bad) ∧ w' = w := by
 have q1 : w.cell? ⟨b, 1, none⟩ = some (.bool B.bad) := by rw [cell_block H.blk]; rfl
 go_enter Tryz.func17, Tryz.ntmps17
 go_wp2_with fail
 go_ret
 exact ⟨rfl, rfl⟩
theorem clauses_put {w0 : World} {v : Value} {us : List Value} {css : List (List Int)} (h : OwnS w0 w v us css) {gm n : Nat} {bs : List Bool} (hb : w.ownsRow 0 4 1 (.slice (some ⟨gm, 0, none⟩) n n) n (bs.map Value.bool)) (i : Nat) (x : Value) : IntsS (w.setCell ⟨gm, i, none⟩ x) v css := by
 have o : Only (fun k => k = gm) w (w.setCell ⟨gm, i, none⟩ x) := (Only.refl (fun k => k = gm) w).setCell (p := ⟨gm, i, none⟩) (.inl rfl) _
 have hcur : ∃ cur, w.heap[gm]? = some (.cells cur 4 (0, 0)) ∧ cur.toList = bs.map Value.bool := by
  obtain ⟨hl, h2⟩ := hb
  rcases h2 with ⟨e, _⟩ | ⟨g, cap, cur, e, -, hg, -, -, hsz, ht⟩
  ·cases e
  ·simp only [Value.slice.injEq, Option.some.injEq, Addr.mk.injEq, and_true, true_and] at e
   obtain ⟨rfl, rfl⟩ := e
   refine ⟨cur, hg, ?_⟩
   rw [List.take_of_length_le (by rw [Array.length_toList]; omega)] at ht
   exact ht
 obtain ⟨cur, hg, hcl⟩ := hcur
 refine ⟨us, Cells.of_own (own_only h.row o (fun k hk e => own_ne_block (by decide) h.row hg (by rw [← e]; exact hk))), h.ints.1, fun j hj => (h.ints.2 j hj).only' o (fun hp b hbk e => ?_)⟩
 have hI := h.ints.2 j hj
 obtain ⟨ao, cap, e1, -, -⟩ := hI.shape
 obtain ⟨b2, off, e2, -, hc⟩ := hI.cells _ _ _ e1 hp
 rw [e1, e2] at hbk
 have hb2 : b2 = gm := by
  simp [Value.blk] at hbk
  omega
 have h0 := hc 0 hp
 rw [hb2, cell_block hg] at h0
 have h1 : cur.toList[off + 0]? = some (.int .i64 ((css.getD j []).getD 0 0)) := by rw [Array.getElem?_toList]; exact h0
 rw [hcl, List.getElem?_map] at h1
 cases hh : bs[off + 0]? with
 | none => rw [hh] at h1; cases h1
 | some y => rw [hh] at h1; simp at h1
theorem smallMid {x : RecD} {q : ReqD} (h : SmallCh x q) : MidRec x :=
 ⟨by have := h.packs; omega, fun p hp => by have := (h.all p hp).rels; omega, fun p hp => by have := (h.all p hp).vars.1; omega, fun p hp v hv => by have := ((h.all p hp).vars.2 v hv).2; omega⟩
theorem smallGR {x : RecD} {q : ReqD} (hs : SmallRec x) (hq : q.roots.length ≤ 40) (h : SmallCh x q) (by_ : List Nat) : GR (gOf x q (x.closure q.names) by_) := by
 have ok := smallRuOk hs hq
 refine ⟨ok, ?_, gOf_ok fun p hp v hv => ((h.all p hp).vars.2 v hv).1⟩
 show (rulesOf x q (x.closure q.names)).length ≤ 100000
 unfold rulesOf
 rw [List.length_append]
 have h1 : (rootRs q q.roots.length).length = q.roots.length := by unfold rootRs; simp
 have h2 := flatMap_le (x := x) (l := x.closure q.names) fun p hp => by
  have := ok.lt p hp
  have hm : x.pack p ∈ x.packs := RecD.pack_mem this
  exact packRs_len (ok.deps _ hm) (ok.cons _ hm)
 have h3 := Nat.mul_le_mul_right 2000 (show (x.closure q.names).length ≤ 8 by have := x.closure_len q.names; have := h.packs; omega)
 rw [h1]
 omega
theorem atoms_ok {x : RecD} {q : ReqD} (h : SmallCh x q) {l : List Nat} (hl : ∀ p ∈ l, p < x.packs.length) {T : Tab} (hT : T.l = []) (B : Bld) : ∀ a ∈ (TB.choices (T, B) x l).1.l, ∃ p, p < x.packs.length ∧ (a = nodeA p ∨ (∃ i, i ≤ 1000000 ∧ a = relA p i) ∨ ∃ j k, j ≤ 1000000 ∧ k ≤ 1000000 ∧ a = valA p j k) := fun a ha => by
 obtain ⟨p, hp, hh⟩ := Cho.atoms_of hT B a ha
 have hlt := hl p hp
 have hm := RecD.pack_mem hlt
 have hr := (h.all _ hm).rels
 have hv := (h.all _ hm).vars
 refine ⟨p, hlt, ?_⟩
 rcases hh with e | ⟨i, hi, e⟩ | ⟨j, k, hj, hk, e⟩
 ·exact .inl e
 ·exact .inr (.inl ⟨i, by omega, e⟩)
 ·have h1 : (x.pack p).vars.getD j default ∈ (x.pack p).vars := by rw [List.getD_eq_getElem?_getD, List.getElem?_eq_getElem hj]; exact List.getElem_mem hj
  have h2 := (hv.2 _ h1).2
  have h3 := hv.1
  exact .inr (.inr ⟨j, k, by omega, by omega, e⟩)
set_option maxRecDepth 100000 in
set_option maxHeartbeats 4000000 in
theorem ChoiceHolds_walk {csx : List Value} {x : RecD} (hx : RecC B w csx x) {csq : List Value} {q : ReqD} (hq : ReqC B w csq q) {vby_ : Value} {by_ : List Nat} (hby_ : RowT 1 U8C B w vby_ by_) {turned : Int} (ht1 : 0 ≤ turned ∧ turned ≤ 65535) (hBw : B ≤ w.heap.size) :
  Calls Tryz.prog 4 #[.agg csx.toArray, .agg csq.toArray, vby_, .int .u16 turned] w fun e w' => e = .returned (.bool true) ∧ Only (fun _ => False) w w' := by
 have HH_x := Lib.hid hx
 obtain ⟨u1, u2, rfl, r1, r2⟩ := hx
 obtain ⟨a_x_packs, c_x_packs, rfl, g_x_packs, h_x_packs⟩ := r1.shape
 obtain ⟨n_x_packs, e1⟩ : ∃ n, x.packs.length = n := ⟨_, rfl⟩
 have N_x_packs := Lib.hid e1
 obtain ⟨a_x_prefs, c_x_prefs, rfl, g_x_prefs, h_x_prefs⟩ := r2.shape
 obtain ⟨n_x_prefs, e2⟩ : ∃ n, x.prefs.length = n := ⟨_, rfl⟩
 have N_x_prefs := Lib.hid e2
 rw [e1, e2] at HH_x
 rw [e1] at r1 g_x_packs
 have RR_x_packs := Lib.hid r1
 rw [e2] at r2 g_x_prefs
 have RR_x_prefs := Lib.hid r2
 rw [e1, e2]
 clear e1 e2 r1 r2
 have HH_q := Lib.hid hq
 obtain ⟨u1, rfl, r1⟩ := hq
 obtain ⟨a_q_roots, c_q_roots, rfl, g_q_roots, h_q_roots⟩ := r1.shape
 obtain ⟨n_q_roots, e1⟩ : ∃ n, q.roots.length = n := ⟨_, rfl⟩
 have N_q_roots := Lib.hid e1
 rw [e1] at HH_q
 rw [e1] at r1 g_q_roots
 have RR_q_roots := Lib.hid r1
 rw [e1]
 clear e1 r1
 obtain ⟨a_by_, c_by_, rfl, g_by_, g2_by_⟩ := hby_.shape
 obtain ⟨n_by_, e1⟩ : ∃ n, by_.length = n := ⟨_, rfl⟩
 have N_by_ := Lib.hid e1
 rw [e1] at hby_ g_by_ ⊢
 have RR_by_ := Lib.hid hby_
 clear e1 hby_
 obtain ⟨W0, hW0⟩ : ∃ W0, W0 = ((w.alloc (.cells #[.slice a_x_packs n_x_packs c_x_packs, .slice a_x_prefs n_x_prefs c_x_prefs] 25)).alloc (.cells #[.slice a_q_roots n_q_roots c_q_roots] 28)) := ⟨_, rfl⟩
 have HOB : Hid (Only (fun _ => False) w W0) := by rw [hW0]; exact ((Only.refl _ _).alloc _).alloc _
 have HSz : Hid (W0.heap.size = w.heap.size + 2) := by rw [hW0]; simp [Hid]
 have HBox : Hid (∀ W, Only (fun _ => False) W0 W → W.cell? ⟨w.heap.size, 0, none⟩ = some (.slice a_x_packs n_x_packs c_x_packs) ∧ W.cell? ⟨w.heap.size, 1, none⟩ = some (.slice a_x_prefs n_x_prefs c_x_prefs) ∧ W.cell? ⟨w.heap.size + 1, 0, none⟩ = some (.slice a_q_roots n_q_roots c_q_roots)) := fun W ho => by
  have b0 : W0.heap[w.heap.size]? = some (.cells #[.slice a_x_packs n_x_packs c_x_packs, .slice a_x_prefs n_x_prefs c_x_prefs] 25) := by rw [hW0]; exact alloc_block (alloc_at rfl) _
  have d0 := only_block b0 ho (fun f => f)
  have b1 : W0.heap[w.heap.size + 1]? = some (.cells #[.slice a_q_roots n_q_roots c_q_roots] 28) := by rw [hW0]; exact alloc_at (by simp)
  have d1 := only_block b1 ho (fun f => f)
  exact ⟨by rw [cell_block d0]; rfl, by rw [cell_block d0]; rfl, by rw [cell_block d1]; rfl⟩
 have HK_x : Hid (∀ W, Only (fun _ => False) W0 W → RecC B W [.slice a_x_packs n_x_packs c_x_packs, .slice a_x_prefs n_x_prefs c_x_prefs] x) := fun W ho => RecC.keep HH_x.out (Kp.of0 (HOB.out.same ho) : Kp B w W)
 have HR_x_packs : Hid (∀ W, Only (fun _ => False) W0 W → RowT 8 PackC B W (.slice a_x_packs n_x_packs c_x_packs) x.packs) := fun W ho => RR_x_packs.out.keep PackC.keep (Kp.of0 (HOB.out.same ho))
 clear RR_x_packs
 have HR_x_prefs : Hid (∀ W, Only (fun _ => False) W0 W → RowT 3 PrefC B W (.slice a_x_prefs n_x_prefs c_x_prefs) x.prefs) := fun W ho => RR_x_prefs.out.keep PrefC.keep (Kp.of0 (HOB.out.same ho))
 clear RR_x_prefs
 clear HH_x
 have HK_q : Hid (∀ W, Only (fun _ => False) W0 W → ReqC B W [.slice a_q_roots n_q_roots c_q_roots] q) := fun W ho => ReqC.keep HH_q.out (Kp.of0 (HOB.out.same ho) : Kp B w W)
 have HR_q_roots : Hid (∀ W, Only (fun _ => False) W0 W → RowT 4 RootC B W (.slice a_q_roots n_q_roots c_q_roots) q.roots) := fun W ho => RR_q_roots.out.keep RootC.keep (Kp.of0 (HOB.out.same ho))
 clear RR_q_roots
 clear HH_q
 have HR_by_ : Hid (∀ W, Only (fun _ => False) W0 W → RowT 1 U8C B W (.slice a_by_ n_by_ c_by_) by_) := fun W ho => RR_by_.out.keep U8C.keep (Kp.of0 (HOB.out.same ho))
 clear RR_by_
 have HGt := Lib.hid (GreatL13_any (HK_x.out W0 (Only.refl _ _)) (HK_q.out W0 (Only.refl _ _)))
 obtain ⟨k0, k1, k2⟩ := HBox.out W0 (Only.refl _ _)
 rw [hW0] at k0 k1 k2
 go_enter Tryz.func4, Tryz.ntmps4
 go_wp2_with fail
 rw [← hW0] at k0 k1 k2 ⊢
 clear hW0
 refine HGt.out.mono ?_
 rintro e w2 ⟨b2, rfl, hf2, O2⟩
 have HO2 := Lib.hid O2
 clear O2 HGt k0 k1 k2
 obtain ⟨k0, k1, k2⟩ := HBox.out w2 HO2.out
 cases b2 with
 | true =>
  clear hf2
  go_wp2_with fail
  refine (fixed13_any _).mono ?_
  rintro e w9 ⟨rfl, O9⟩
  have HO9 := Lib.hid (HO2.out.same O9)
  clear O9
  go_wp2_with fail
  go_ret
  exact ⟨rfl, HOB.out.same HO9.out⟩
 | false =>
  replace hf2 := hf2 rfl
  obtain ⟨hs, hq, hch⟩ := hf2
  obtain ⟨L2, hL2⟩ : ∃ l, x.closure q.names = l := ⟨_, rfl⟩
  have HL2 := Lib.hid hL2
  have hlt : ∀ p ∈ L2, p < x.packs.length := fun p hp => by rw [← hL2] at hp; exact (RecD.mem_closure.1 hp).lt
  have hnd : L2.Nodup := by rw [← hL2]; exact x.closure_nodup _
  have hlen : L2.length ≤ 1000 := by have := Cho.small_len hch hlt hnd; omega
  have hmid := smallMid hch
  have hgr := smallGR hs hq hch by_
  rw [hL2] at hgr
  have HSc := Lib.hid hch
  have HLt := Lib.hid hlt
  have HMd := Lib.hid hmid
  have HGr := Lib.hid hgr
  have HNew := Lib.hid (New_gr (HK_x.out w2 HO2.out) (HK_q.out w2 HO2.out) (Nat.le_trans hBw (HOB.out.same HO2.out).size) hs hq 5000 ⟨by decide, by decide⟩ 5000 (by decide))
  go_wp2_with fail
  refine HNew.out.mono ?_
  rintro e W1 ⟨ca, bta, bba, gta, gba, Ga, Bsa, rfl, hG, hx', hq', hI', hR', hM, -, hB3, -, hB5, O4⟩
  rw [hL2] at hI'
  have HOW1 := Lib.hid (HO2.out.same O4)
  have hsz := HO2.out.size
  have HMa : Hid (∀ k, Mine gta k ∨ Mine gba k → W0.heap.size ≤ k) := fun k hk => by have := hM k hk; omega
  have HMwa : Hid (∀ k, Mine gta k ∨ Mine gba k → w2.heap.size ≤ k) := fun k hk => by have := hM k hk; omega
  have HCh := Lib.hid (Choices_gr hG hx' hI' hlt hmid hM hB5 hlen)
  clear hG hx' hq' hI' hR' hM hB3 hB5 O4 HNew
  obtain ⟨k0, k1, k2⟩ := HBox.out W1 HOW1.out
  go_wp2_with fail
  refine HCh.out.mono ?_
  rintro e w3 ⟨rfl, gt2a, gb2a, hG3, -, -, O5⟩
  obtain ⟨S, hS⟩ : ∃ S, TB.choices (Cho.T5, Cho.B0) x L2 = S := ⟨_, rfl⟩
  have hG3' : GrAt w3 gt2a gb2a ca bta bba Ga S.1 S.2 := by rw [← hS]; exact hG3
  have HGa := Lib.hid hG3'
  have HS := Lib.hid hS
  have HOw3 : Hid (Only (fun _ => False) W0 w3) := HOW1.out.trans O5 (fun k hk => .inr (HMa.out k hk))
  have HS := HS
  obtain ⟨l1, l2, l3, l4, l5⟩ := Cho.choices_law hch hlt hnd by_ HS.out.symm
  clear O5 hG3 hG3' hS HCh hs hq hch hlt hnd hlen hmid hgr
  clear k0 k1 k2
  obtain ⟨k0, k1, k2⟩ := HBox.out w3 HOw3.out
  have HOf := Lib.hid (Of_any (HK_x.out w3 HOw3.out) (HK_q.out w3 HOw3.out) (HR_by_.out w3 HOw3.out) HMd.out (by rw [HL2.out]; exact HLt.out) (Nat.le_trans hBw (HOB.out.same HOw3.out).size))
  rw [HL2.out] at HOf
  go_wp2_with fail
  clear k0 k1 k2
  refine HOf.out.mono ?_
  rintro e w4 ⟨csm, rfl, hGm, O6⟩
  have HO4 := Lib.hid (HOw3.out.same O6)
  have HMo := Lib.hid (Model_any hGm (HGa.out.only0 O6) HGr.out (by rw [← HS.out]; exact atoms_ok HSc.out HLt.out rfl _))
  have HO34 := Lib.hid O6
  clear O6 hGm HOf
  go_wp2_with fail
  refine HMo.out.mono ?_
  rintro e w5 ⟨gm, rfl, hV, hgm, O7⟩
  have HO5 := Lib.hid (HO4.out.same O7)
  have HO35 := Lib.hid (HO34.out.same O7)
  obtain ⟨nS, hnS⟩ : ∃ n, S.1.l.length = n := ⟨_, rfl⟩
  rw [hnS] at hV ⊢
  have HNS := Lib.hid hnS
  obtain ⟨md, hmd⟩ : ∃ m : List Bool, S.1.l.map (soC (gOf x q L2 by_).c) = m := ⟨_, rfl⟩
  have HMd2 := Lib.hid hmd
  have hV' : w5.ownsRow 0 4 1 (.slice (some ⟨gm, 0, none⟩) nS nS) nS (md.map Value.bool) := by rw [← hmd]; exact hV
  have HV := Lib.hid hV'
  have HGm : Hid (W0.heap.size ≤ gm) := Nat.le_trans HO4.out.size hgm
  clear O7 hV hV' hgm hnS hmd HMo
  have HGw5 := Lib.hid (HGa.out.only0 HO35.out)
  have HCl : Hid (Calls Tryz.prog 16 #[.pointer (some ⟨bba, 0, none⟩)] w5 fun e w' => ∃ v us, e = .returned v ∧ OwnS w5 w' v us S.2.cls ∧ Only (fun _ => False) w5 w') := by
   obtain ⟨V, hV⟩ := HGw5.out.bld
   exact Clauses_any hV
  go_wp2_with fail
  refine (Builder_gr HGw5.out).mono ?_
  rintro e w6 ⟨rfl, rfl⟩
  go_wp2_with fail
  refine HCl.out.mono ?_
  rintro e w7 ⟨va, us, rfl, hOw, O8⟩
  have HOw := Lib.hid hOw
  have HO7 := Lib.hid (HO5.out.same O8)
  have HGw7 := Lib.hid (HGw5.out.only0 O8)
  have HV7 : Hid (w7.ownsRow 0 4 1 (.slice (some ⟨gm, 0, none⟩) nS nS) nS (md.map Value.bool)) := own_only HV.out O8 (fun _ _ f => f)
  obtain ⟨av, cv, rfl, -, -⟩ := own_slice hOw.row
  obtain ⟨nu, hnu⟩ : ∃ n, us.length = n := ⟨_, rfl⟩
  rw [hnu] at HOw ⊢
  have HBl : Hid (md.length = nS) := by rw [← HMd2.out, List.length_map]; exact HNS.out
  have HBo : Hid (Bools w7 (.slice (some ⟨gm, 0, none⟩) nS nS) md) := Bools.of_own (by rw [HBl.out]; exact HV7.out)
  have HBad : Hid (Calls Tryz.prog 17 #[.pointer (some ⟨bba, 0, none⟩)] w7 fun e w' => e = .returned (.bool false) ∧ w' = w7) := by
   obtain ⟨V, hV⟩ := HGw7.out.bld
   have h := gBad_any hV
   rw [l1] at h
   exact h
  have HHo := Lib.hid (Holds_any HOw.out.intsS HBo.out true (by rw [← HMd2.out]; exact l3))
  clear O8 hOw hnu HCl HGw5 HV
  have HFull : Hid (Calls Tryz.prog 19 #[.pointer (some ⟨bta, 0, none⟩)] w7 fun e w' => e = .returned (.bool false) ∧ w' = w7) := by
   obtain ⟨V, hV⟩ := HGw7.out.tab
   have h := tabFull_any hV
   rw [l2] at h
   exact h
  have HBr : Hid (∀ n, n < nS → Cnf.holdsB S.2.cls (md.set n (!md.getD n false)) = false) := fun n hn => by
   have := l5 n (by rw [HNS.out]; exact hn)
   rw [HMd2.out] at this
   exact this
  have hnb : nS ≤ 5000 := by rw [← HNS.out]; exact l4
  clear l1 l2 l3 l4 l5
  go_wp2_with fail
  refine (Builder_gr HGw7.out).mono ?_
  rintro e w8 ⟨rfl, rfl⟩
  go_wp2_with fail
  refine HBad.out.mono ?_
  rintro e w8 ⟨rfl, rfl⟩
  go_wp2_with fail
  refine (Table_gr HGw7.out).mono ?_
  rintro e w8 ⟨rfl, rfl⟩
  go_wp2_with fail
  refine HFull.out.mono ?_
  rintro e w8 ⟨rfl, rfl⟩
  go_wp2_with fail
  refine HHo.out.mono ?_
  rintro e w8 ⟨rfl, rfl⟩
  obtain ⟨w7, hw7⟩ : ∃ W, W = w8 := ⟨_, rfl⟩
  subst hw7
  clear HBad HFull HHo
  by_cases hz : nS = 0
  ·subst hz
   go_wp2_with fail
   refine (fixed13_any _).mono ?_
   rintro e w9 ⟨rfl, O9⟩
   have HO9 := Lib.hid (HO7.out.same O9)
   clear O9
   go_wp2_with fail
   go_ret
   exact ⟨rfl, HOB.out.same HO9.out⟩
  ·have hz' : 0 < nS := by omega
   obtain ⟨tn, rfl⟩ : ∃ t : Nat, turned = t := ⟨turned.toNat, by omega⟩
   obtain ⟨kn, hkn⟩ : ∃ k, tn % nS = k := ⟨_, rfl⟩
   have hkl : kn < nS := by rw [← hkn]; exact Nat.mod_lt _ hz'
   have ht : Int.tmod (tn : Int) (nS : Int) = (kn : Int) := by rw [← hkn, ← Int.ofNat_tmod]
   have hn0 : ((nS : Int) == 0) = false := by rw [beq_eq_false_iff_ne]; omega
   have qc : w7.cell? ⟨gm, kn, none⟩ = some (.bool (md.getD kn false)) := by
    rw [HV7.out.cellAt kn (by omega), List.getElem?_map, List.getD_eq_getElem?_getD, List.getElem?_eq_getElem (by rw [HBl.out]; exact hkl)]
    rfl
   have qf := HV7.out.frozenAt kn
   obtain ⟨yb, hyb⟩ : ∃ y, md.getD kn false = y := ⟨_, rfl⟩
   rw [hyb] at qc
   obtain ⟨W8, hW8⟩ : ∃ W, W = w7.setCell ⟨gm, kn, none⟩ (.bool (!yb)) := ⟨_, rfl⟩
   have HO8 : Hid (Only (fun _ => False) W0 W8) := by rw [hW8]; exact HO7.out.setCell (p := ⟨gm, kn, none⟩) (.inr HGm.out) _
   have HI8 : Hid (IntsS W8 (.slice av nu cv) S.2.cls) := by rw [hW8]; exact clauses_put HOw.out HV7.out kn _
   have HV8 : Hid (W8.ownsRow 0 4 1 (.slice (some ⟨gm, 0, none⟩) nS nS) nS ((md.set kn (!yb)).map Value.bool)) := by
    rw [hW8, List.map_set]
    exact (HV7.out.stored kn (.bool (!yb))).1
   have HB8 : Hid (Bools W8 (.slice (some ⟨gm, 0, none⟩) nS nS) (md.set kn (!yb))) := by
    have hl : (md.set kn (!yb)).length = nS := by rw [List.length_set]; exact HBl.out
    exact Bools.of_own (by rw [hl]; exact HV8.out)
   have HF8 : Hid (Cnf.holdsB S.2.cls (md.set kn (!yb)) = false) := by rw [← hyb]; exact HBr.out kn hkl
   clear hkn hyb HV7 HOw HBo
   go_wp2_with fail
   rw [← hW8]
   clear hW8 qc qf ht hn0
   refine (fixed13_any _).mono ?_
   rintro e w9 ⟨rfl, O9⟩
   have HO9 := Lib.hid (HO8.out.same O9)
   have HH9 := Lib.hid (Holds_any (HI8.out.only0 O9) (HB8.out.only0 O9) false HF8.out)
   clear O9
   go_wp2_with fail
   refine HH9.out.mono ?_
   rintro e w10 ⟨rfl, rfl⟩
   go_wp2_with fail
   go_ret
   exact ⟨rfl, HOB.out.same HO9.out⟩
end
end Go.Proofs.YtbapkcnfacklaaaGreat

/- ChoiceLines: the walk. Printed by gen_ch15.py. -/
import Derived.Test.YtbapkcnfacklaaaGreatCh14
set_option linter.unusedVariables false
namespace Go.Proofs.YtbapkcnfacklaaaGreat
open Go.RowKit
section
variable {w w' : World} {B : Nat}
def RNe (a b : RuleD) : Prop := ¬ (a.kind = b.kind ∧ a.pack = b.pack ∧ a.idx = b.idx)
theorem range_ne (f : Nat → RuleD) (h : ∀ i j, i < j → RNe (f i) (f j)) (n : Nat) : ((List.range n).map f).Pairwise RNe := by
 rw [List.pairwise_map]
 exact List.Pairwise.imp (fun {a b} hab => h a b hab) List.pairwise_lt_range
theorem rulesOf_ne (x : RecD) (q : ReqD) {l : List Nat} (hl : l.Nodup) : (rulesOf x q l).Pairwise RNe := by
 unfold rulesOf
 rw [List.pairwise_append]
 refine ⟨?_, ?_, ?_⟩
 ·unfold rootRs
  exact range_ne _ (fun i j hij h => by have := h.2.2; simp at this; omega) _
 ·rw [List.pairwise_flatMap]
  refine ⟨fun p hp => ?_, ?_⟩
  ·unfold packRs
   rw [List.pairwise_append]
   refine ⟨?_, ?_, ?_⟩
   ·unfold depRs
    exact range_ne _ (fun i j hij h => by have := h.2.2; simp at this; omega) _
   ·unfold conRs
    exact range_ne _ (fun i j hij h => by have := h.2.2; simp at this; omega) _
   ·intro a ha b hb h
    unfold depRs at ha
    unfold conRs at hb
    obtain ⟨i, -, rfl⟩ := List.mem_map.1 ha
    obtain ⟨j, -, rfl⟩ := List.mem_map.1 hb
    have := h.1
    simp at this
  ·refine List.Pairwise.imp ?_ hl
   intro p p' hpp a ha b hb h
   have hk : ∀ {p : Nat} {a : RuleD}, a ∈ packRs x p → a.pack = (p : Int) := by
    intro p a ha
    unfold packRs depRs conRs at ha
    rcases List.mem_append.1 ha with ha | ha
    ·obtain ⟨i, -, rfl⟩ := List.mem_map.1 ha; rfl
    ·obtain ⟨i, -, rfl⟩ := List.mem_map.1 ha; rfl
   have h1 := hk ha
   have h2 := hk hb
   have h3 := h.2.1
   rw [h1, h2] at h3
   exact hpp (by omega)
 ·intro a ha b hb h
  unfold rootRs at ha
  obtain ⟨i, -, rfl⟩ := List.mem_map.1 ha
  obtain ⟨p, -, hb⟩ := List.mem_flatMap.1 hb
  have h1 := h.1
  unfold packRs depRs conRs at hb
  rcases List.mem_append.1 hb with hb | hb
  ·obtain ⟨j, -, rfl⟩ := List.mem_map.1 hb
   simp at h1
  ·obtain ⟨j, -, rfl⟩ := List.mem_map.1 hb
   simp at h1
theorem rulesOf_mem {x : RecD} {q : ReqD} {l : List Nat} {r : RuleD} (h : r ∈ rulesOf x q l) :
  (∃ k : Nat, k < q.roots.length ∧ r = ⟨1, -1, k, (q.roots.getD k default).line⟩) ∨
  (∃ p k : Nat, p ∈ l ∧ k < (x.pack p).deps.length ∧ r = ⟨2, p, k, ((x.pack p).deps.getD k default).line⟩) ∨
  (∃ p k : Nat, p ∈ l ∧ k < (x.pack p).cons.length ∧ r = ⟨3, p, k, ((x.pack p).cons.getD k default).line⟩) := by
 unfold rulesOf at h
 rcases List.mem_append.1 h with h | h
 ·unfold rootRs at h
  obtain ⟨k, hk, rfl⟩ := List.mem_map.1 h
  exact .inl ⟨k, List.mem_range.1 hk, rfl⟩
 ·obtain ⟨p, hp, h⟩ := List.mem_flatMap.1 h
  unfold packRs depRs conRs at h
  rcases List.mem_append.1 h with h | h
  ·obtain ⟨k, hk, rfl⟩ := List.mem_map.1 h
   exact .inr (.inl ⟨p, k, hp, List.mem_range.1 hk, rfl⟩)
  ·obtain ⟨k, hk, rfl⟩ := List.mem_map.1 h
   exact .inr (.inr ⟨p, k, hp, List.mem_range.1 hk, rfl⟩)
def wantTo (x : RecD) (q : ReqD) (l : List Nat) (i : Nat) : Nat := (rootRs q q.roots.length ++ (l.take i).flatMap (packRs x)).length
theorem wantTo_zero (x : RecD) (q : ReqD) (l : List Nat) : wantTo x q l 0 = q.roots.length := by
 unfold wantTo rootRs; simp
theorem wantTo_succ {x : RecD} {q : ReqD} {l : List Nat} {i p : Nat} (h : l[i]? = some p) : wantTo x q l (i + 1) = wantTo x q l i + ((x.pack p).deps.length + (x.pack p).cons.length) := by
 unfold wantTo
 rw [takeN_succ h, List.flatMap_append]
 have : (List.flatMap (packRs x) [p]).length = (x.pack p).deps.length + (x.pack p).cons.length := by
  simp [packRs, depRs, conRs]
 rw [List.length_append, List.length_append, List.length_append, this]
 omega
theorem wantTo_all (x : RecD) (q : ReqD) (l : List Nat) : wantTo x q l l.length = (rulesOf x q l).length := by
 unfold wantTo rulesOf
 rw [List.take_of_length_le (Nat.le_refl _)]
theorem wantTo_le (x : RecD) (q : ReqD) (l : List Nat) (i : Nat) : wantTo x q l i ≤ (rulesOf x q l).length := by
 unfold wantTo rulesOf
 rw [List.length_append, List.length_append]
 have : ((l.take i).flatMap (packRs x)).length ≤ (l.flatMap (packRs x)).length := by
  conv => rhs; rw [← List.take_append_drop i l]
  rw [List.flatMap_append, List.length_append]
  omega
 omega
set_option maxRecDepth 100000 in
set_option maxHeartbeats 4000000 in
theorem ChoiceLines_walk {csx : List Value} {x : RecD} (hx : RecC B w csx x) {csq : List Value} {q : ReqD} (hq : ReqC B w csq q) (hBw : B ≤ w.heap.size) :
  Calls Tryz.prog 3 #[.agg csx.toArray, .agg csq.toArray] w fun e w' => e = .returned (.bool true) ∧ Only (fun _ => False) w w' := by
 have HH_x := Lib.hid hx
 obtain ⟨u1, u2, rfl, r1, r2⟩ := hx
 obtain ⟨a_x_packs, c_x_packs, rfl, g_x_packs, h_x_packs⟩ := r1.shape
 obtain ⟨n_x_packs, e1⟩ : ∃ n, x.packs.length = n := ⟨_, rfl⟩
 have N_x_packs := Lib.hid e1
 obtain ⟨a_x_prefs, c_x_prefs, rfl, g_x_prefs, h_x_prefs⟩ := r2.shape
 obtain ⟨n_x_prefs, e2⟩ : ∃ n, x.prefs.length = n := ⟨_, rfl⟩
 have N_x_prefs := Lib.hid e2
 rw [e1, e2] at HH_x
 rw [e1] at r1 g_x_packs
 have RR_x_packs := Lib.hid r1
 rw [e2] at r2 g_x_prefs
 have RR_x_prefs := Lib.hid r2
 rw [e1, e2]
 clear e1 e2 r1 r2
 have HH_q := Lib.hid hq
 obtain ⟨u1, rfl, r1⟩ := hq
 obtain ⟨a_q_roots, c_q_roots, rfl, g_q_roots, h_q_roots⟩ := r1.shape
 obtain ⟨n_q_roots, e1⟩ : ∃ n, q.roots.length = n := ⟨_, rfl⟩
 have N_q_roots := Lib.hid e1
 rw [e1] at HH_q
 rw [e1] at r1 g_q_roots
 have RR_q_roots := Lib.hid r1
 rw [e1]
 clear e1 r1
 obtain ⟨W0, hW0⟩ : ∃ W0, W0 = ((w.alloc (.cells #[.slice a_x_packs n_x_packs c_x_packs, .slice a_x_prefs n_x_prefs c_x_prefs] 25)).alloc (.cells #[.slice a_q_roots n_q_roots c_q_roots] 28)) := ⟨_, rfl⟩
 have HOB : Hid (Only (fun _ => False) w W0) := by rw [hW0]; exact ((Only.refl _ _).alloc _).alloc _
 have HSz : Hid (W0.heap.size = w.heap.size + 2) := by rw [hW0]; simp [Hid]
 have HBox : Hid (∀ W, Only (fun _ => False) W0 W → W.cell? ⟨w.heap.size, 0, none⟩ = some (.slice a_x_packs n_x_packs c_x_packs) ∧ W.cell? ⟨w.heap.size, 1, none⟩ = some (.slice a_x_prefs n_x_prefs c_x_prefs) ∧ W.cell? ⟨w.heap.size + 1, 0, none⟩ = some (.slice a_q_roots n_q_roots c_q_roots)) := fun W ho => by
  have b0 : W0.heap[w.heap.size]? = some (.cells #[.slice a_x_packs n_x_packs c_x_packs, .slice a_x_prefs n_x_prefs c_x_prefs] 25) := by rw [hW0]; exact alloc_block (alloc_at rfl) _
  have d0 := only_block b0 ho (fun f => f)
  have b1 : W0.heap[w.heap.size + 1]? = some (.cells #[.slice a_q_roots n_q_roots c_q_roots] 28) := by rw [hW0]; exact alloc_at (by simp)
  have d1 := only_block b1 ho (fun f => f)
  exact ⟨by rw [cell_block d0]; rfl, by rw [cell_block d0]; rfl, by rw [cell_block d1]; rfl⟩
 have HK_x : Hid (∀ W, Only (fun _ => False) W0 W → RecC B W [.slice a_x_packs n_x_packs c_x_packs, .slice a_x_prefs n_x_prefs c_x_prefs] x) := fun W ho => RecC.keep HH_x.out (Kp.of0 (HOB.out.same ho) : Kp B w W)
 have HR_x_packs : Hid (∀ W, Only (fun _ => False) W0 W → RowT 8 PackC B W (.slice a_x_packs n_x_packs c_x_packs) x.packs) := fun W ho => RR_x_packs.out.keep PackC.keep (Kp.of0 (HOB.out.same ho))
 clear RR_x_packs
 have HR_x_prefs : Hid (∀ W, Only (fun _ => False) W0 W → RowT 3 PrefC B W (.slice a_x_prefs n_x_prefs c_x_prefs) x.prefs) := fun W ho => RR_x_prefs.out.keep PrefC.keep (Kp.of0 (HOB.out.same ho))
 clear RR_x_prefs
 clear HH_x
 have HK_q : Hid (∀ W, Only (fun _ => False) W0 W → ReqC B W [.slice a_q_roots n_q_roots c_q_roots] q) := fun W ho => ReqC.keep HH_q.out (Kp.of0 (HOB.out.same ho) : Kp B w W)
 have HR_q_roots : Hid (∀ W, Only (fun _ => False) W0 W → RowT 4 RootC B W (.slice a_q_roots n_q_roots c_q_roots) q.roots) := fun W ho => RR_q_roots.out.keep RootC.keep (Kp.of0 (HOB.out.same ho))
 clear RR_q_roots
 clear HH_q
 have HGt := Lib.hid (GreatL13_any (HK_x.out W0 (Only.refl _ _)) (HK_q.out W0 (Only.refl _ _)))
 obtain ⟨k0, k1, k2⟩ := HBox.out W0 (Only.refl _ _)
 rw [hW0] at k0 k1 k2
 go_enter Tryz.func3, Tryz.ntmps3
 go_wp2_with fail
 rw [← hW0] at k0 k1 k2 ⊢
 clear hW0
 refine HGt.out.mono ?_
 rintro e w2 ⟨b2, rfl, hf2, O2⟩
 have HO2 := Lib.hid O2
 clear O2 HGt k0 k1 k2
 obtain ⟨k0, k1, k2⟩ := HBox.out w2 HO2.out
 cases b2 with
 | true =>
  clear hf2
  go_wp2_with fail
  refine (fixed13_any _).mono ?_
  rintro e w3 ⟨rfl, O3⟩
  have HO3 := Lib.hid (HO2.out.same O3)
  clear O3 k0 k1 k2
  go_wp2_with fail
  go_ret
  exact ⟨rfl, HOB.out.same HO3.out⟩
 | false =>
  replace hf2 := hf2 rfl
  have hs := hf2.1
  have hq := hf2.2.1
  have hch := hf2.2.2
  have hpk := hch.packs
  have hq2 : n_q_roots ≤ 40 := by rw [← N_q_roots.out]; exact hq
  rw [N_x_packs.out] at hpk
  obtain ⟨L2, hL2⟩ : ∃ l, x.closure q.names = l := ⟨_, rfl⟩
  have HL2 := Lib.hid hL2
  obtain ⟨nC, hnC⟩ : ∃ n, L2.length = n := ⟨_, rfl⟩
  have HC2 := Lib.hid hnC
  have hnC8 : nC ≤ 8 := by rw [← hnC, ← hL2]; have := x.closure_len q.names; rw [N_x_packs.out] at this; omega
  obtain ⟨L, hL⟩ : ∃ l, rulesOf x q L2 = l := ⟨_, rfl⟩
  obtain ⟨nL, hnL⟩ : ∃ n, L.length = n := ⟨_, rfl⟩
  have HLn := Lib.hid hnL
  have hok := smallRuOk hs hq
  rw [hL2] at hok
  have HOk := Lib.hid hok
  have hnLb : nL ≤ 100000 := by
   rw [← hnL, ← hL]
   unfold rulesOf
   rw [List.length_append]
   have h1 : (rootRs q q.roots.length).length = q.roots.length := by unfold rootRs; simp
   have h2 := flatMap_le (x := x) (l := L2) fun p hp => by
    have := hok.lt p hp
    have hm : x.pack p ∈ x.packs := RecD.pack_mem this
    exact packRs_len (hok.deps _ hm) (hok.cons _ hm)
   have h3 := Nat.mul_le_mul_right 2000 (show L2.length ≤ 8 by rw [hnC]; exact hnC8)
   rw [h1, N_q_roots.out]
   omega
  have HLt : Hid (∀ i ∈ L2, i < 1000) := fun i hi => by
   rw [← hL2] at hi
   have := (RecD.mem_closure.1 hi).lt
   rw [N_x_packs.out] at this
   omega
  have HNew := Lib.hid (New_gr (HK_x.out w2 HO2.out) (HK_q.out w2 HO2.out) (by have := (HOB.out.same HO2.out).size; omega) hs hq 10 ⟨by decide, by decide⟩ 10 (by decide))
  have HRng : Hid (∀ r ∈ L, (0 ≤ r.kind ∧ r.kind ≤ 255) ∧ InI64 r.pack ∧ InI64 r.idx ∧ InI64 r.line) := by
   rw [← hL]
   exact rules_range (HK_x.out w2 HO2.out) (HK_q.out w2 HO2.out) hok
  have HLL := Lib.hid hL
  have HLt2 : Hid (∀ p ∈ L2, p < n_x_packs) := fun i hi => by
   rw [← hL2] at hi
   have := (RecD.mem_closure.1 hi).lt
   rwa [N_x_packs.out] at this
  have HMem : Hid (∀ r ∈ L, (∃ k : Nat, k < q.roots.length ∧ r = ⟨1, -1, k, (q.roots.getD k default).line⟩) ∨
    (∃ p k : Nat, p ∈ L2 ∧ k < (x.pack p).deps.length ∧ r = ⟨2, p, k, ((x.pack p).deps.getD k default).line⟩) ∨
    (∃ p k : Nat, p ∈ L2 ∧ k < (x.pack p).cons.length ∧ r = ⟨3, p, k, ((x.pack p).cons.getD k default).line⟩)) := fun r hr => rulesOf_mem (by rw [hL]; exact hr)
  have HNe : Hid (∀ (k i : Nat) (s r : RuleD), k < i → L[k]? = some s → L[i]? = some r → RNe s r) := fun k i s r hki hs hr => by
   have hp := rulesOf_ne x q (l := L2) (by rw [← hL2]; exact x.closure_nodup _)
   rw [hL] at hp
   obtain ⟨h1, rfl⟩ := List.getElem?_eq_some_iff.1 hs
   obtain ⟨h2, rfl⟩ := List.getElem?_eq_some_iff.1 hr
   exact List.pairwise_iff_getElem.1 hp k i h1 h2 hki
  clear hf2 hch hs hok hnC hnL
  go_wp2_with fail
  refine HNew.out.mono ?_
  rintro e W1 ⟨c, bt, bb, gt, gb, G, Bs, rfl, hG, -, -, -, hR', -, -, -, -, -, O4⟩
  rw [hL2] at hR'
  rw [hL] at hR'
  have HO4 := Lib.hid (HO2.out.same O4)
  have HRg := Lib.hid (Rules_gr hG hR' (by rw [HLn.out]; omega))
  clear hG hR' O4 HNew k0 k1 k2
  go_wp2_with fail
  refine HRg.out.mono ?_
  rintro e w5 ⟨v5, rfl, hr5, o5⟩
  obtain ⟨a5, cp5, rfl, hcap, -⟩ := own_slice hr5.1
  rw [HLn.out] at hcap hr5 ⊢
  have HO5 := Lib.hid (HO4.out.same o5)
  have HA : Hid (∀ W, Only (fun _ => False) w5 W → RowT 4 RuleC w5.heap.size W (.slice a5 nL cp5) L) := fun W ho => (RuRow.read hr5 HRng.out).keep RuleC.keep (Kp.of0 ho)
  clear hr5 o5 HRg
  obtain ⟨k0, k1, k2⟩ := HBox.out w5 HO5.out
  have HCC := Lib.hid (Closure10_any (HK_x.out w5 HO5.out) (HK_q.out w5 HO5.out) (by rw [N_x_packs.out]; omega))
  go_wp2_with fail
  refine HCC.out.mono ?_
  rintro e w9 ⟨vp, rfl, hp1, -, O9⟩
  have HO59 := Lib.hid O9
  have HO9 := Lib.hid O9
  have hI9 := ints_of_nats hp1 fun i hi => by have := (RecD.mem_closure.1 hi).lt; rw [N_x_packs.out] at this; omega
  rw [hL2] at hI9
  obtain ⟨apl, cpl, rfl, -, -⟩ := hI9.shape
  have e9 : (intsOf L2).length = nC := by unfold intsOf; rw [List.length_map]; exact HC2.out
  rw [e9] at hI9 ⊢
  have HIp : Hid (∀ W, Only (fun _ => False) w9 W → Ints W (.slice apl nC cpl) (intsOf L2)) := fun W hW => hI9.only0 hW
  have HOC : Hid (Only (fun _ => False) w9 w9) := Only.refl _ _
  clear hp1 hI9 e9 HCC O9 k0 k1 k2 hL2 hL
  obtain ⟨k0, k1, k2⟩ := HBox.out w9 (HO5.out.same HO9.out)
  go_wp2_with fail
  clear k0 k1 k2
  go_loopw [6, 29] (fun vw vi wri => Hid (Only (fun _ => False) w9 wri) ∧ ∃ i : Nat, vi = .int .i64 i ∧ i ≤ nC ∧ vw = .int .i64 (wantTo x q L2 i : Nat)) (fun _ v _ => nC - (RowKit.intOf v).toNat)
  case atStart => exact ⟨HOC, 0, rfl, Nat.zero_le _, by rw [wantTo_zero, N_q_roots.out]⟩
  case round =>
   obtain ⟨wri, rfl⟩ : ∃ W, W = wr := ⟨_, rfl⟩
   clear HOC
   obtain ⟨HOi, i, rfl, hi, rfl⟩ := hrel
   obtain ⟨k0, k1, k2⟩ := HBox.out wri (HO5.out.same (HO9.out.same HOi.out))
   by_cases ci : i < nC
   ·have ewi : IntKind.i64.wrap ((i : Int) + 1) = (i : Int) + 1 := by rw [IntKind.wrap_i64]; omega
    obtain ⟨p, hp⟩ : ∃ p, L2[i]? = some p := ⟨_, List.getElem?_eq_getElem (by rw [HC2.out]; exact ci)⟩
    have hpn := HLt2.out p (List.mem_of_getElem? hp)
    have HPp := Lib.hid hp
    obtain ⟨bI, offI, eI, hcell⟩ := (HIp.out wri HOi.out).cellN hp
    subst eI
    clear hp
    obtain ⟨yy, hxy⟩ : ∃ y, x.packs[p]? = some y := ⟨_, List.getElem?_eq_getElem (by rw [N_x_packs.out]; omega)⟩
    obtain ⟨bky, offy, ay1, ny1, cy1, ay2, ny2, cy2, ay3, ny3, cy3, ay4, ny4, cy4, ay5, ny5, cy5, ay6, ny6, cy6, hey, N0y1, N0y2, N0y3, N0y4, N0y5, N0y6, oky1, iny1, HE0y⟩ := PackC_at (HR_x_packs.out W0 (Only.refl _ _)) hxy
    first
     | subst hey
     | (simp only [Option.some.injEq, Addr.mk.injEq, and_true] at hey; obtain ⟨rfl, rfl⟩ := hey)
    have Ny1 := Lib.hid N0y1
    have Ny2 := Lib.hid N0y2
    have Ny3 := Lib.hid N0y3
    have Ny4 := Lib.hid N0y4
    have Ny5 := Lib.hid N0y5
    have Ny6 := Lib.hid N0y6
    have HEy := Lib.hid HE0y
    have HXy := Lib.hid hxy
    clear HE0y hxy N0y1 N0y2 N0y3 N0y4 N0y5 N0y6
    have HRy1 : Hid (∀ W, Only (fun _ => False) W0 W → RowT 2 RelC B W (.slice ay1 ny1 cy1) yy.rels) := fun W ho => (HEy.out W ho).2.1
    have HRy2 : Hid (∀ W, Only (fun _ => False) W0 W → RowT 2 VarC B W (.slice ay2 ny2 cy2) yy.vars) := fun W ho => (HEy.out W ho).2.2.1
    have HRy3 : Hid (∀ W, Only (fun _ => False) W0 W → RowT 1 StrC B W (.slice ay3 ny3 cy3) yy.provides) := fun W ho => (HEy.out W ho).2.2.2.1
    have HRy4 : Hid (∀ W, Only (fun _ => False) W0 W → RowT 7 DepC B W (.slice ay4 ny4 cy4) yy.deps) := fun W ho => (HEy.out W ho).2.2.2.2.1
    have HRy5 : Hid (∀ W, Only (fun _ => False) W0 W → RowT 7 ConC B W (.slice ay5 ny5 cy5) yy.cons) := fun W ho => (HEy.out W ho).2.2.2.2.2.1
    have HRy6 : Hid (∀ W, Only (fun _ => False) W0 W → RowT 1 StrC B W (.slice ay6 ny6 cy6) yy.files) := fun W ho => (HEy.out W ho).2.2.2.2.2.2.1
    have HCy : Hid (∀ W, Only (fun _ => False) W0 W → PackC B W [.string yy.name, .int .i64 yy.line, .slice ay1 ny1 cy1, .slice ay2 ny2 cy2, .slice ay3 ny3 cy3, .slice ay4 ny4 cy4, .slice ay5 ny5 cy5, .slice ay6 ny6 cy6] yy) := fun W ho => (HEy.out W ho).2.2.2.2.2.2.2
    have HPg : Hid (x.pack p = yy) := by unfold RecD.pack; rw [List.getD_eq_getElem?_getD, HXy.out]; exact rfl
    have hd4 : ny4 ≤ 1000 := by rw [← Ny4.out]; exact HOk.out.deps yy (List.mem_of_getElem? HXy.out)
    have hd5 : ny5 ≤ 1000 := by rw [← Ny5.out]; exact HOk.out.cons yy (List.mem_of_getElem? HXy.out)
    have hwl := wantTo_le x q L2 i
    rw [HLL.out, HLn.out] at hwl
    obtain ⟨W8, hW8⟩ : ∃ n, wantTo x q L2 i = n := ⟨_, rfl⟩
    rw [hW8] at hwl ⊢
    have HW8 := Lib.hid hW8
    have es1 : IntKind.i64.wrap ((ny4 : Int) + (ny5 : Int)) = (ny4 : Int) + (ny5 : Int) := by rw [IntKind.wrap_i64]; omega
    have es2 : IntKind.i64.wrap ((W8 : Int) + ((ny4 : Int) + (ny5 : Int))) = (W8 : Int) + ((ny4 : Int) + (ny5 : Int)) := by rw [IntKind.wrap_i64]; omega
    clear hW8
    go_wp2_with fail
    clear hcell k0 k1 k2
    refine wp_region_G (n := 18) (E := fun _ => false) (S := fun W => Only (fun _ => False) w9 W) (by kernel_rfl) rfl (by exact HOi.out.drew) (fun hHeld => ?_)
    refine tqW (i := 0) (v := ?_) rfl (.inr (by assumption)) ?_ ?_
    rotate_left
    ·(intro w; go_simp <;> (try with_reducible rfl))
    try simp only [Act.put, zq1, zq3, zq4, zq5, zq6]
    refine tqW (i := 1) (v := ?_) rfl (.inr (by assumption)) ?_ ?_
    rotate_left
    ·(intro w; go_simp <;> (try with_reducible rfl))
    try simp only [Act.put, zq1, zq2, zq3, zq4, zq5, zq6]
    refine tqK (i := 2) (v := ?_) rfl ?_ ?_
    rotate_left
    ·(intro w hSw; obtain ⟨k0, k1, k2⟩ := HBox.out w (HO5.out.same (HO9.out.same hSw)); have hry := (HEy.out w (HO5.out.same (HO9.out.same hSw))).1; have gy5 := hry 5 _ rfl; have gy6 := hry 6 _ rfl; clear hry; go_simp <;> (try with_reducible rfl))
    try simp only [Act.put, zq1, zq2, zq3, zq4, zq5, zq6]
    refine tqW (i := 3) (v := ?_) rfl (.inr (by assumption)) ?_ ?_
    rotate_left
    ·(intro w; go_simp <;> (try with_reducible rfl))
    try simp only [Act.put, zq1, zq2, zq3, zq4, zq5, zq6]
    refine tqW (i := 4) (v := ?_) rfl (.inr (by assumption)) ?_ ?_
    rotate_left
    ·(intro w; go_simp <;> (try with_reducible rfl))
    try simp only [Act.put, zq1, zq2, zq3, zq4, zq5, zq6]
    refine tqW (i := 5) (v := ?_) rfl (.inr (by assumption)) ?_ ?_
    rotate_left
    ·(intro w; go_simp <;> (try with_reducible rfl))
    try simp only [Act.put, zq1, zq2, zq3, zq4, zq5, zq6]
    refine tqK (i := 6) (v := ?_) rfl ?_ ?_
    rotate_left
    ·(intro w hSw; obtain ⟨k0, k1, k2⟩ := HBox.out w (HO5.out.same (HO9.out.same hSw)); have hry := (HEy.out w (HO5.out.same (HO9.out.same hSw))).1; have gy5 := hry 5 _ rfl; have gy6 := hry 6 _ rfl; clear hry; go_simp <;> (try with_reducible rfl))
    try simp only [Act.put, zq1, zq2, zq3, zq4, zq5, zq6]
    refine tqW (i := 7) (v := ?_) rfl (.inr (by assumption)) ?_ ?_
    rotate_left
    ·(intro w; go_simp <;> (try with_reducible rfl))
    try simp only [Act.put, zq1, zq2, zq3, zq4, zq5, zq6]
    refine tqW (i := 8) (v := ?_) rfl (.inr (by assumption)) ?_ ?_
    rotate_left
    ·(intro w; go_simp <;> (try with_reducible rfl))
    try simp only [Act.put, zq1, zq2, zq3, zq4, zq5, zq6]
    refine tqK (i := 9) (v := ?_) rfl ?_ ?_
    rotate_left
    ·(intro w hSw; obtain ⟨k0, k1, k2⟩ := HBox.out w (HO5.out.same (HO9.out.same hSw)); have hry := (HEy.out w (HO5.out.same (HO9.out.same hSw))).1; have gy5 := hry 5 _ rfl; have gy6 := hry 6 _ rfl; clear hry; go_simp <;> (try with_reducible rfl))
    try simp only [Act.put, zq1, zq2, zq3, zq4, zq5, zq6]
    refine tqW (i := 10) (v := ?_) rfl (.inr (by assumption)) ?_ ?_
    rotate_left
    ·(intro w; go_simp <;> (try with_reducible rfl))
    try simp only [Act.put, zq1, zq2, zq3, zq4, zq5, zq6]
    refine tqW (i := 11) (v := ?_) rfl (.inr (by assumption)) ?_ ?_
    rotate_left
    ·(intro w; go_simp <;> (try with_reducible rfl))
    try simp only [Act.put, zq1, zq2, zq3, zq4, zq5, zq6]
    refine tqW (i := 12) (v := ?_) rfl (.inr (by assumption)) ?_ ?_
    rotate_left
    ·(intro w; go_simp <;> (try with_reducible rfl))
    try simp only [Act.put, zq1, zq2, zq3, zq4, zq5, zq6]
    refine tqK (i := 13) (v := ?_) rfl ?_ ?_
    rotate_left
    ·(intro w hSw; obtain ⟨k0, k1, k2⟩ := HBox.out w (HO5.out.same (HO9.out.same hSw)); have hry := (HEy.out w (HO5.out.same (HO9.out.same hSw))).1; have gy5 := hry 5 _ rfl; have gy6 := hry 6 _ rfl; clear hry; go_simp <;> (try with_reducible rfl))
    try simp only [Act.put, zq1, zq2, zq3, zq4, zq5, zq6]
    refine tqW (i := 14) (v := ?_) rfl (.inr (by assumption)) ?_ ?_
    rotate_left
    ·(intro w; go_simp <;> (try with_reducible rfl))
    try simp only [Act.put, zq1, zq2, zq3, zq4, zq5, zq6]
    refine tqW (i := 15) (v := ?_) rfl (.inr (by assumption)) ?_ ?_
    rotate_left
    ·(intro w; go_simp <;> (try with_reducible rfl))
    try simp only [Act.put, zq1, zq2, zq3, zq4, zq5, zq6]
    refine tqW (i := 16) (v := ?_) rfl (.inr (by assumption)) ?_ ?_
    rotate_left
    ·(intro w; go_simp <;> (try with_reducible rfl))
    try simp only [Act.put, zq1, zq2, zq3, zq4, zq5, zq6]
    refine tqW (i := 17) (v := ?_) rfl (.inr (by assumption)) ?_ ?_
    rotate_left
    ·(intro w; go_simp <;> (try with_reducible rfl))
    try simp only [Act.put, zq1, zq2, zq3, zq4, zq5, zq6]
    refine wpAnyG_done (by kernel_rfl) ?_ _
    have HPn := Lib.hid hHeld
    clear hHeld
    have HWn : Hid (wantTo x q L2 (i + 1) = W8 + (ny4 + ny5)) := by
     rw [wantTo_succ HPp.out, HW8.out, HPg.out, Ny4.out, Ny5.out]
     exact rfl
    go_wp2_with fail
    go_roundw
    case rel => exact ⟨HPn, i + 1, by first | rfl | go_num, by omega, by rw [HWn.out]; first | rfl | go_num | (simp; done)⟩
    case measure => simp [RowKit.intOf] <;> omega
   ·obtain rfl : nC = i := by omega
    have hfin : wantTo x q L2 nC = nL := by
     rw [← HC2.out, wantTo_all, HLL.out, HLn.out]
    have HOC : Hid (Only (fun _ => False) w5 wri) := HO59.out.same HOi.out
    rw [hfin]
    clear hfin
    go_wp2_with fail
    clear k0 k1 k2
    go_loopw [57] (fun vi wri => Hid (Only (fun _ => False) w5 wri) ∧ ∃ i : Nat, vi = .int .i64 i ∧ i ≤ nL) (fun v _ => nL - (RowKit.intOf v).toNat)
    case atStart => exact ⟨HOC, 0, rfl, Nat.zero_le _⟩
    case round =>
     obtain ⟨wri, rfl⟩ : ∃ W, W = wr := ⟨_, rfl⟩
     clear HOC
     obtain ⟨HOi, i, rfl, hi⟩ := hrel
     by_cases ci : i < nL
     ·obtain ⟨r, hx⟩ : ∃ y, L[i]? = some y := ⟨_, List.getElem?_eq_getElem (by rw [HLn.out]; exact ci)⟩
      have hmem := HMem.out r (List.mem_of_getElem? hx)
      rcases hmem with h | h | h
      ·obtain ⟨k1, hk1, rfl⟩ := h
       rw [N_q_roots.out] at hk1
       obtain ⟨yr, hxr⟩ : ∃ y, q.roots[k1]? = some y := ⟨_, List.getElem?_eq_getElem (by rw [N_q_roots.out]; omega)⟩
       obtain ⟨bkr, offr, ar1, nr1, cr1, ar2, nr2, cr2, her, N0r1, N0r2, okr1, inr1, HE0r⟩ := RootC_at (HR_q_roots.out W0 (Only.refl _ _)) hxr
       first
        | subst her
        | (simp only [Option.some.injEq, Addr.mk.injEq, and_true] at her; obtain ⟨rfl, rfl⟩ := her)
       have Nr1 := Lib.hid N0r1
       have Nr2 := Lib.hid N0r2
       have HEr := Lib.hid HE0r
       have HXr := Lib.hid hxr
       clear HE0r hxr N0r1 N0r2
       have HRr1 : Hid (∀ W, Only (fun _ => False) W0 W → RowT 2 SpanC B W (.slice ar1 nr1 cr1) yr.spec.spans) := fun W ho => (HEr.out W ho).2.1
       have HRr2 : Hid (∀ W, Only (fun _ => False) W0 W → RowT 2 SetC B W (.slice ar2 nr2 cr2) yr.spec.sets) := fun W ho => (HEr.out W ho).2.2.1
       have HCr : Hid (∀ W, Only (fun _ => False) W0 W → RootC B W [.string yr.spec.name, .slice ar1 nr1 cr1, .slice ar2 nr2 cr2, .int .i64 yr.line] yr) := fun W ho => (HEr.out W ho).2.2.2
       have hln : (q.roots.getD k1 default).line = yr.line := by rw [List.getD_eq_getElem?_getD, HXr.out]; rfl
       rw [hln] at hx
       have HXL := Lib.hid hx
       clear hx hln
       obtain ⟨bkt, offt, het, -, HE0t⟩ := RuleC_at (HA.out w5 (Only.refl _ _)) HXL.out
       first
        | subst het
        | (simp only [Option.some.injEq, Addr.mk.injEq, and_true] at het; obtain ⟨rfl, rfl⟩ := het)
       have HEt := Lib.hid HE0t
       clear HE0t
       have hrt := Lib.hid (HEt.out wri HOi.out)
       obtain ⟨W2, hW2⟩ : ∃ V, V = wri.alloc (.cells #[.int .u8 1, .int .i64 (-1), .int .i64 (k1 : Int), .int .i64 yr.line] 45) := ⟨_, rfl⟩
       have HP2 : Hid (Only (fun _ => False) w5 W2) := by rw [hW2]; exact (HOi.out).alloc _
       have HBd : Hid (∀ W, Only (fun _ => False) W2 W → W.cell? ⟨wri.heap.size, 0, none⟩ = some (.int .u8 1) ∧ W.cell? ⟨wri.heap.size, 1, none⟩ = some (.int .i64 (-1)) ∧ W.cell? ⟨wri.heap.size, 2, none⟩ = some (.int .i64 (k1 : Int)) ∧ W.cell? ⟨wri.heap.size, 3, none⟩ = some (.int .i64 yr.line)) := fun W ho => by
        have b0 : W2.heap[wri.heap.size]? = some (.cells #[.int .u8 1, .int .i64 (-1), .int .i64 (k1 : Int), .int .i64 yr.line] 45) := by rw [hW2]; exact heap_alloc_new wri _
        have b1 := only_block b0 ho (fun f => f)
        exact ⟨by rw [cell_block b1]; rfl, by rw [cell_block b1]; rfl, by rw [cell_block b1]; rfl, by rw [cell_block b1]; rfl⟩
       obtain ⟨-, -, m2⟩ := HBox.out W2 (HO5.out.same HP2.out)
       obtain ⟨d0, d1, d2, d3⟩ := HBd.out W2 (Only.refl _ _)
       have hrr := (HEr.out W2 (HO5.out.same HP2.out)).1
       have gr3 := hrr 3 _ rfl
       clear hrr
       rw [hW2] at m2 d0 d1 d2 d3 gr3
       have hi0 : (0 : Int) ≤ (i : Int) := by omega
       have hi1 : (i : Int) ≤ (cp5 : Int) := by omega
       go_wp2_with (refine wpList_load_mid rfl 45 (.tmp 60) rfl bkt (offt + i * 4) rfl _ _ hrt.out Tryz.underlying45 rfl (by kernel_rfl) ?_)
       rw [← hW2]
       clear hW2 m2 d0 d1 d2 d3 gr3
       have HOC : Hid (Only (fun _ => False) W2 W2) := Only.refl _ _
       go_loopw [109] (fun vk wrk => Hid (Only (fun _ => False) W2 wrk) ∧ ∃ k : Nat, vk = .int .i64 k ∧ k ≤ i) (fun v _ => i - (RowKit.intOf v).toNat)
       case atStart => exact ⟨HOC, 0, rfl, Nat.zero_le _⟩
       case round =>
        obtain ⟨wrk, rfl⟩ : ∃ W, W = wr := ⟨_, rfl⟩
        clear HOC
        obtain ⟨HPk, k, rfl, hk⟩ := hrel
        by_cases ck : k < i
        ·have ewi : IntKind.i64.wrap ((k : Int) + 1) = (k : Int) + 1 := by rw [IntKind.wrap_i64]; omega
         obtain ⟨s, hxs⟩ : ∃ y, L[k]? = some y := ⟨_, List.getElem?_eq_getElem (by rw [HLn.out]; omega)⟩
         have HXs := Lib.hid hxs
         clear hxs
         obtain ⟨bks, offs, hes, -, HE0s⟩ := RuleC_at (HA.out w5 (Only.refl _ _)) HXs.out
         first
          | subst hes
          | (simp only [Option.some.injEq, Addr.mk.injEq, and_true] at hes; obtain ⟨rfl, rfl⟩ := hes)
         have HEs := Lib.hid HE0s
         clear HE0s
         have HQk : Hid (Only (fun _ => False) w5 wrk) := HP2.out.same HPk.out
         have hrs := Lib.hid (HEs.out wrk HQk.out)
         obtain ⟨W3, hW3⟩ : ∃ V, V = wrk.alloc (.cells #[.int .u8 s.kind, .int .i64 s.pack, .int .i64 s.idx, .int .i64 s.line] 45) := ⟨_, rfl⟩
         have HP3 : Hid (Only (fun _ => False) W2 W3) := by rw [hW3]; exact HPk.out.alloc _
         have HBf : Hid (∀ W, Only (fun _ => False) W3 W → W.cell? ⟨wrk.heap.size, 0, none⟩ = some (.int .u8 s.kind) ∧ W.cell? ⟨wrk.heap.size, 1, none⟩ = some (.int .i64 s.pack) ∧ W.cell? ⟨wrk.heap.size, 2, none⟩ = some (.int .i64 s.idx) ∧ W.cell? ⟨wrk.heap.size, 3, none⟩ = some (.int .i64 s.line)) := fun W ho => by
          have b0 : W3.heap[wrk.heap.size]? = some (.cells #[.int .u8 s.kind, .int .i64 s.pack, .int .i64 s.idx, .int .i64 s.line] 45) := by rw [hW3]; exact heap_alloc_new wrk _
          have b1 := only_block b0 ho (fun f => f)
          exact ⟨by rw [cell_block b1]; rfl, by rw [cell_block b1]; rfl, by rw [cell_block b1]; rfl, by rw [cell_block b1]; rfl⟩
         obtain ⟨d0, d1, d2, d3⟩ := HBd.out W3 HP3.out
         obtain ⟨f0, f1, f2, f3⟩ := HBf.out W3 (Only.refl _ _)
         rw [hW3] at d0 d1 d2 f0 f1 f2
         clear d3 f3
         have hne : ¬ (s.kind = 1 ∧ s.pack = (-1) ∧ s.idx = (k1 : Int)) := HNe.out k i s ⟨1, (-1), k1, yr.line⟩ (by omega) HXs.out HXL.out
         by_cases e1 : s.kind = 1
         ·have e1' : ((s.kind : Int) == 1) = true := by rw [e1]; simp
          by_cases e2 : s.pack = (-1)
          ·have e2' : ((s.pack : Int) == (-1)) = true := by rw [e2]; simp
           have e3 : ((s.idx : Int) == (k1 : Int)) = false := by
            rw [beq_eq_false_iff_ne]
            exact fun h => hne ⟨e1, e2, h⟩
           clear e1 e2 hne
           go_wp2_with (refine wpList_load_mid rfl 45 (.tmp 111) rfl bkt (offt + k * 4) rfl _ _ hrs.out Tryz.underlying45 rfl (by kernel_rfl) ?_)
           rw [← hW3]
           clear hW3
           go_roundw
           case rel => exact ⟨HP3, k + 1, by first | rfl | go_num, by omega⟩
           case measure => simp [RowKit.intOf] <;> omega
          ·have e2' : ((s.pack : Int) == (-1)) = false := by rw [beq_eq_false_iff_ne]; exact e2
           clear e1 e2 hne
           go_wp2_with (refine wpList_load_mid rfl 45 (.tmp 111) rfl bkt (offt + k * 4) rfl _ _ hrs.out Tryz.underlying45 rfl (by kernel_rfl) ?_)
           rw [← hW3]
           clear hW3
           go_roundw
           case rel => exact ⟨HP3, k + 1, by first | rfl | go_num, by omega⟩
           case measure => simp [RowKit.intOf] <;> omega
         ·have e1' : ((s.kind : Int) == 1) = false := by rw [beq_eq_false_iff_ne]; exact e1
          clear e1 hne
          go_wp2_with (refine wpList_load_mid rfl 45 (.tmp 111) rfl bkt (offt + k * 4) rfl _ _ hrs.out Tryz.underlying45 rfl (by kernel_rfl) ?_)
          rw [← hW3]
          clear hW3
          go_roundw
          case rel => exact ⟨HP3, k + 1, by first | rfl | go_num, by omega⟩
          case measure => simp [RowKit.intOf] <;> omega
        ·obtain rfl : i = k := by omega
         have HOi2 : Hid (Only (fun _ => False) w5 wrk) := HP2.out.same HPk.out
         have ewi : IntKind.i64.wrap ((i : Int) + 1) = (i : Int) + 1 := by rw [IntKind.wrap_i64]; omega
         go_wp2_with fail
         go_roundw
         case rel => exact ⟨HOi2, i + 1, by first | rfl | go_num, by omega⟩
         case measure => simp [RowKit.intOf] <;> omega
      ·obtain ⟨p, k1, hpl, hk1, rfl⟩ := h
       have hpn := HLt2.out p hpl
       obtain ⟨yy, hxy⟩ : ∃ y, x.packs[p]? = some y := ⟨_, List.getElem?_eq_getElem (by rw [N_x_packs.out]; omega)⟩
       obtain ⟨bky, offy, ay1, ny1, cy1, ay2, ny2, cy2, ay3, ny3, cy3, ay4, ny4, cy4, ay5, ny5, cy5, ay6, ny6, cy6, hey, N0y1, N0y2, N0y3, N0y4, N0y5, N0y6, oky1, iny1, HE0y⟩ := PackC_at (HR_x_packs.out W0 (Only.refl _ _)) hxy
       first
        | subst hey
        | (simp only [Option.some.injEq, Addr.mk.injEq, and_true] at hey; obtain ⟨rfl, rfl⟩ := hey)
       have Ny1 := Lib.hid N0y1
       have Ny2 := Lib.hid N0y2
       have Ny3 := Lib.hid N0y3
       have Ny4 := Lib.hid N0y4
       have Ny5 := Lib.hid N0y5
       have Ny6 := Lib.hid N0y6
       have HEy := Lib.hid HE0y
       have HXy := Lib.hid hxy
       clear HE0y hxy N0y1 N0y2 N0y3 N0y4 N0y5 N0y6
       have HRy1 : Hid (∀ W, Only (fun _ => False) W0 W → RowT 2 RelC B W (.slice ay1 ny1 cy1) yy.rels) := fun W ho => (HEy.out W ho).2.1
       have HRy2 : Hid (∀ W, Only (fun _ => False) W0 W → RowT 2 VarC B W (.slice ay2 ny2 cy2) yy.vars) := fun W ho => (HEy.out W ho).2.2.1
       have HRy3 : Hid (∀ W, Only (fun _ => False) W0 W → RowT 1 StrC B W (.slice ay3 ny3 cy3) yy.provides) := fun W ho => (HEy.out W ho).2.2.2.1
       have HRy4 : Hid (∀ W, Only (fun _ => False) W0 W → RowT 7 DepC B W (.slice ay4 ny4 cy4) yy.deps) := fun W ho => (HEy.out W ho).2.2.2.2.1
       have HRy5 : Hid (∀ W, Only (fun _ => False) W0 W → RowT 7 ConC B W (.slice ay5 ny5 cy5) yy.cons) := fun W ho => (HEy.out W ho).2.2.2.2.2.1
       have HRy6 : Hid (∀ W, Only (fun _ => False) W0 W → RowT 1 StrC B W (.slice ay6 ny6 cy6) yy.files) := fun W ho => (HEy.out W ho).2.2.2.2.2.2.1
       have HCy : Hid (∀ W, Only (fun _ => False) W0 W → PackC B W [.string yy.name, .int .i64 yy.line, .slice ay1 ny1 cy1, .slice ay2 ny2 cy2, .slice ay3 ny3 cy3, .slice ay4 ny4 cy4, .slice ay5 ny5 cy5, .slice ay6 ny6 cy6] yy) := fun W ho => (HEy.out W ho).2.2.2.2.2.2.2
       have HPg : Hid (x.pack p = yy) := by unfold RecD.pack; rw [List.getD_eq_getElem?_getD, HXy.out]; exact rfl
       rw [HPg.out] at hk1 hx
       rw [Ny4.out] at hk1
       obtain ⟨yz, hxz⟩ : ∃ y, yy.deps[k1]? = some y := ⟨_, List.getElem?_eq_getElem (by rw [Ny4.out]; omega)⟩
       obtain ⟨bkz, offz, az1, nz1, cz1, az2, nz2, cz2, az3, nz3, cz3, az4, nz4, cz4, hez, N0z1, N0z2, N0z3, N0z4, okz1, okz2, inz1, HE0z⟩ := DepC_at (HRy4.out W0 (Only.refl _ _)) hxz
       first
        | subst hez
        | (simp only [Option.some.injEq, Addr.mk.injEq, and_true] at hez; obtain ⟨rfl, rfl⟩ := hez)
       have Nz1 := Lib.hid N0z1
       have Nz2 := Lib.hid N0z2
       have Nz3 := Lib.hid N0z3
       have Nz4 := Lib.hid N0z4
       have HEz := Lib.hid HE0z
       have HXz := Lib.hid hxz
       clear HE0z hxz N0z1 N0z2 N0z3 N0z4
       have HRz1 : Hid (∀ W, Only (fun _ => False) W0 W → RowT 2 SpanC B W (.slice az1 nz1 cz1) yz.on.spans) := fun W ho => (HEz.out W ho).2.1
       have HRz2 : Hid (∀ W, Only (fun _ => False) W0 W → RowT 2 SetC B W (.slice az2 nz2 cz2) yz.on.sets) := fun W ho => (HEz.out W ho).2.2.1
       have HRz3 : Hid (∀ W, Only (fun _ => False) W0 W → RowT 2 SpanC B W (.slice az3 nz3 cz3) yz.cond.spans) := fun W ho => (HEz.out W ho).2.2.2.1
       have HRz4 : Hid (∀ W, Only (fun _ => False) W0 W → RowT 2 SetC B W (.slice az4 nz4 cz4) yz.cond.sets) := fun W ho => (HEz.out W ho).2.2.2.2.1
       have HCz : Hid (∀ W, Only (fun _ => False) W0 W → DepC B W [.string yz.on.name, .slice az1 nz1 cz1, .slice az2 nz2 cz2, .string yz.cond.name, .slice az3 nz3 cz3, .slice az4 nz4 cz4, .int .i64 yz.line] yz) := fun W ho => (HEz.out W ho).2.2.2.2.2
       have hln : (yy.deps.getD k1 default).line = yz.line := by rw [List.getD_eq_getElem?_getD, HXz.out]; rfl
       rw [hln] at hx
       have HXL := Lib.hid hx
       clear hx hln
       obtain ⟨_, _, -, hb3, hb4⟩ := (HRy4.out W0 (Only.refl _ _)).shape
       rw [Ny4.out] at hb3
       obtain ⟨bkt, offt, het, -, HE0t⟩ := RuleC_at (HA.out w5 (Only.refl _ _)) HXL.out
       first
        | subst het
        | (simp only [Option.some.injEq, Addr.mk.injEq, and_true] at het; obtain ⟨rfl, rfl⟩ := het)
       have HEt := Lib.hid HE0t
       clear HE0t
       have hrt := Lib.hid (HEt.out wri HOi.out)
       obtain ⟨W2, hW2⟩ : ∃ V, V = wri.alloc (.cells #[.int .u8 2, .int .i64 (p : Int), .int .i64 (k1 : Int), .int .i64 yz.line] 45) := ⟨_, rfl⟩
       have HP2 : Hid (Only (fun _ => False) w5 W2) := by rw [hW2]; exact (HOi.out).alloc _
       have HBd : Hid (∀ W, Only (fun _ => False) W2 W → W.cell? ⟨wri.heap.size, 0, none⟩ = some (.int .u8 2) ∧ W.cell? ⟨wri.heap.size, 1, none⟩ = some (.int .i64 (p : Int)) ∧ W.cell? ⟨wri.heap.size, 2, none⟩ = some (.int .i64 (k1 : Int)) ∧ W.cell? ⟨wri.heap.size, 3, none⟩ = some (.int .i64 yz.line)) := fun W ho => by
        have b0 : W2.heap[wri.heap.size]? = some (.cells #[.int .u8 2, .int .i64 (p : Int), .int .i64 (k1 : Int), .int .i64 yz.line] 45) := by rw [hW2]; exact heap_alloc_new wri _
        have b1 := only_block b0 ho (fun f => f)
        exact ⟨by rw [cell_block b1]; rfl, by rw [cell_block b1]; rfl, by rw [cell_block b1]; rfl, by rw [cell_block b1]; rfl⟩
       obtain ⟨d0, d1, d2, d3⟩ := HBd.out W2 (Only.refl _ _)
       obtain ⟨m0, -, -⟩ := HBox.out W2 (HO5.out.same HP2.out)
       rw [hW2] at d0 d1 d2 d3 m0
       go_wp2_with (refine wpList_load_mid rfl 45 (.tmp 60) rfl bkt (offt + i * 4) rfl _ _ hrt.out Tryz.underlying45 rfl (by kernel_rfl) ?_)
       rw [← hW2]
       clear hW2 d0 d1 d2 d3 m0
       refine wp_region_G (n := 13) (E := fun _ => false) (S := fun W => Only (fun _ => False) W2 W) (by kernel_rfl) rfl (by exact (Only.refl _ _).drew) (fun hHeld => ?_)
       refine tqW (i := 0) (v := ?_) rfl (.inr (by assumption)) ?_ ?_
       rotate_left
       ·(intro w; go_simp <;> (try with_reducible rfl))
       try simp only [Act.put, zq1, zq3, zq4, zq5, zq6]
       refine tqK (i := 1) (v := ?_) rfl ?_ ?_
       rotate_left
       ·(intro w hSw; obtain ⟨m0, -, -⟩ := HBox.out w (HO5.out.same (HP2.out.same hSw)); obtain ⟨-, d1, d2, -⟩ := HBd.out w hSw; have hry := (HEy.out w (HO5.out.same (HP2.out.same hSw))).1; have gy5 := hry 5 _ rfl; clear hry; have hrz := (HEz.out w (HO5.out.same (HP2.out.same hSw))).1; have gz6 := hrz 6 _ rfl; clear hrz; go_simp <;> (try with_reducible rfl))
       try simp only [Act.put, zq1, zq2, zq3, zq4, zq5, zq6]
       refine tqW (i := 2) (v := ?_) rfl (.inr (by assumption)) ?_ ?_
       rotate_left
       ·(intro w; go_simp <;> (try with_reducible rfl))
       try simp only [Act.put, zq1, zq2, zq3, zq4, zq5, zq6]
       refine tqK (i := 3) (v := ?_) rfl ?_ ?_
       rotate_left
       ·(intro w hSw; obtain ⟨m0, -, -⟩ := HBox.out w (HO5.out.same (HP2.out.same hSw)); obtain ⟨-, d1, d2, -⟩ := HBd.out w hSw; have hry := (HEy.out w (HO5.out.same (HP2.out.same hSw))).1; have gy5 := hry 5 _ rfl; clear hry; have hrz := (HEz.out w (HO5.out.same (HP2.out.same hSw))).1; have gz6 := hrz 6 _ rfl; clear hrz; go_simp <;> (try with_reducible rfl))
       try simp only [Act.put, zq1, zq2, zq3, zq4, zq5, zq6]
       refine tqW (i := 4) (v := ?_) rfl (.inr (by assumption)) ?_ ?_
       rotate_left
       ·(intro w; go_simp <;> (try with_reducible rfl))
       try simp only [Act.put, zq1, zq2, zq3, zq4, zq5, zq6]
       refine tqW (i := 5) (v := ?_) rfl (.inr (by assumption)) ?_ ?_
       rotate_left
       ·(intro w; go_simp <;> (try with_reducible rfl))
       try simp only [Act.put, zq1, zq2, zq3, zq4, zq5, zq6]
       refine tqK (i := 6) (v := ?_) rfl ?_ ?_
       rotate_left
       ·(intro w hSw; obtain ⟨m0, -, -⟩ := HBox.out w (HO5.out.same (HP2.out.same hSw)); obtain ⟨-, d1, d2, -⟩ := HBd.out w hSw; have hry := (HEy.out w (HO5.out.same (HP2.out.same hSw))).1; have gy5 := hry 5 _ rfl; clear hry; have hrz := (HEz.out w (HO5.out.same (HP2.out.same hSw))).1; have gz6 := hrz 6 _ rfl; clear hrz; go_simp <;> (try with_reducible rfl))
       try simp only [Act.put, zq1, zq2, zq3, zq4, zq5, zq6]
       refine tqW (i := 7) (v := ?_) rfl (.inr (by assumption)) ?_ ?_
       rotate_left
       ·(intro w; go_simp <;> (try with_reducible rfl))
       try simp only [Act.put, zq1, zq2, zq3, zq4, zq5, zq6]
       refine tqK (i := 8) (v := ?_) rfl ?_ ?_
       rotate_left
       ·(intro w hSw; obtain ⟨m0, -, -⟩ := HBox.out w (HO5.out.same (HP2.out.same hSw)); obtain ⟨-, d1, d2, -⟩ := HBd.out w hSw; have hry := (HEy.out w (HO5.out.same (HP2.out.same hSw))).1; have gy5 := hry 5 _ rfl; clear hry; have hrz := (HEz.out w (HO5.out.same (HP2.out.same hSw))).1; have gz6 := hrz 6 _ rfl; clear hrz; go_simp <;> (try with_reducible rfl))
       try simp only [Act.put, zq1, zq2, zq3, zq4, zq5, zq6]
       refine tqW (i := 9) (v := ?_) rfl (.inr (by assumption)) ?_ ?_
       rotate_left
       ·(intro w; go_simp <;> (try with_reducible rfl))
       try simp only [Act.put, zq1, zq2, zq3, zq4, zq5, zq6]
       refine tqW (i := 10) (v := ?_) rfl (.inr (by assumption)) ?_ ?_
       rotate_left
       ·(intro w; go_simp <;> (try with_reducible rfl))
       try simp only [Act.put, zq1, zq2, zq3, zq4, zq5, zq6]
       refine tqK (i := 11) (v := ?_) rfl ?_ ?_
       rotate_left
       ·(intro w hSw; obtain ⟨m0, -, -⟩ := HBox.out w (HO5.out.same (HP2.out.same hSw)); obtain ⟨-, d1, d2, -⟩ := HBd.out w hSw; have hry := (HEy.out w (HO5.out.same (HP2.out.same hSw))).1; have gy5 := hry 5 _ rfl; clear hry; have hrz := (HEz.out w (HO5.out.same (HP2.out.same hSw))).1; have gz6 := hrz 6 _ rfl; clear hrz; go_simp <;> (try with_reducible rfl))
       try simp only [Act.put, zq1, zq2, zq3, zq4, zq5, zq6]
       refine tqW (i := 12) (v := ?_) rfl (.inr (by assumption)) ?_ ?_
       rotate_left
       ·(intro w; go_simp <;> (try with_reducible rfl))
       try simp only [Act.put, zq1, zq2, zq3, zq4, zq5, zq6]
       refine wpAnyG_done (by kernel_rfl) ?_ _
       have HOC := Lib.hid hHeld
       clear hHeld
       obtain ⟨d0, d1, d2, d3⟩ := HBd.out _ HOC.out
       have hi0 : (0 : Int) ≤ (i : Int) := by omega
       have hi1 : (i : Int) ≤ (cp5 : Int) := by omega
       go_wp2_with fail
       clear d0 d1 d2 d3
       go_loopw [109] (fun vk wrk => Hid (Only (fun _ => False) W2 wrk) ∧ ∃ k : Nat, vk = .int .i64 k ∧ k ≤ i) (fun v _ => i - (RowKit.intOf v).toNat)
       case atStart => exact ⟨HOC, 0, rfl, Nat.zero_le _⟩
       case round =>
        obtain ⟨wrk, rfl⟩ : ∃ W, W = wr := ⟨_, rfl⟩
        clear HOC
        obtain ⟨HPk, k, rfl, hk⟩ := hrel
        by_cases ck : k < i
        ·have ewi : IntKind.i64.wrap ((k : Int) + 1) = (k : Int) + 1 := by rw [IntKind.wrap_i64]; omega
         obtain ⟨s, hxs⟩ : ∃ y, L[k]? = some y := ⟨_, List.getElem?_eq_getElem (by rw [HLn.out]; omega)⟩
         have HXs := Lib.hid hxs
         clear hxs
         obtain ⟨bks, offs, hes, -, HE0s⟩ := RuleC_at (HA.out w5 (Only.refl _ _)) HXs.out
         first
          | subst hes
          | (simp only [Option.some.injEq, Addr.mk.injEq, and_true] at hes; obtain ⟨rfl, rfl⟩ := hes)
         have HEs := Lib.hid HE0s
         clear HE0s
         have HQk : Hid (Only (fun _ => False) w5 wrk) := HP2.out.same HPk.out
         have hrs := Lib.hid (HEs.out wrk HQk.out)
         obtain ⟨W3, hW3⟩ : ∃ V, V = wrk.alloc (.cells #[.int .u8 s.kind, .int .i64 s.pack, .int .i64 s.idx, .int .i64 s.line] 45) := ⟨_, rfl⟩
         have HP3 : Hid (Only (fun _ => False) W2 W3) := by rw [hW3]; exact HPk.out.alloc _
         have HBf : Hid (∀ W, Only (fun _ => False) W3 W → W.cell? ⟨wrk.heap.size, 0, none⟩ = some (.int .u8 s.kind) ∧ W.cell? ⟨wrk.heap.size, 1, none⟩ = some (.int .i64 s.pack) ∧ W.cell? ⟨wrk.heap.size, 2, none⟩ = some (.int .i64 s.idx) ∧ W.cell? ⟨wrk.heap.size, 3, none⟩ = some (.int .i64 s.line)) := fun W ho => by
          have b0 : W3.heap[wrk.heap.size]? = some (.cells #[.int .u8 s.kind, .int .i64 s.pack, .int .i64 s.idx, .int .i64 s.line] 45) := by rw [hW3]; exact heap_alloc_new wrk _
          have b1 := only_block b0 ho (fun f => f)
          exact ⟨by rw [cell_block b1]; rfl, by rw [cell_block b1]; rfl, by rw [cell_block b1]; rfl, by rw [cell_block b1]; rfl⟩
         obtain ⟨d0, d1, d2, d3⟩ := HBd.out W3 HP3.out
         obtain ⟨f0, f1, f2, f3⟩ := HBf.out W3 (Only.refl _ _)
         rw [hW3] at d0 d1 d2 f0 f1 f2
         clear d3 f3
         have hne : ¬ (s.kind = 2 ∧ s.pack = (p : Int) ∧ s.idx = (k1 : Int)) := HNe.out k i s ⟨2, (p : Int), k1, yz.line⟩ (by omega) HXs.out HXL.out
         by_cases e1 : s.kind = 2
         ·have e1' : ((s.kind : Int) == 2) = true := by rw [e1]; simp
          by_cases e2 : s.pack = (p : Int)
          ·have e2' : ((s.pack : Int) == (p : Int)) = true := by rw [e2]; simp
           have e3 : ((s.idx : Int) == (k1 : Int)) = false := by
            rw [beq_eq_false_iff_ne]
            exact fun h => hne ⟨e1, e2, h⟩
           clear e1 e2 hne
           go_wp2_with (refine wpList_load_mid rfl 45 (.tmp 111) rfl bkt (offt + k * 4) rfl _ _ hrs.out Tryz.underlying45 rfl (by kernel_rfl) ?_)
           rw [← hW3]
           clear hW3
           go_roundw
           case rel => exact ⟨HP3, k + 1, by first | rfl | go_num, by omega⟩
           case measure => simp [RowKit.intOf] <;> omega
          ·have e2' : ((s.pack : Int) == (p : Int)) = false := by rw [beq_eq_false_iff_ne]; exact e2
           clear e1 e2 hne
           go_wp2_with (refine wpList_load_mid rfl 45 (.tmp 111) rfl bkt (offt + k * 4) rfl _ _ hrs.out Tryz.underlying45 rfl (by kernel_rfl) ?_)
           rw [← hW3]
           clear hW3
           go_roundw
           case rel => exact ⟨HP3, k + 1, by first | rfl | go_num, by omega⟩
           case measure => simp [RowKit.intOf] <;> omega
         ·have e1' : ((s.kind : Int) == 2) = false := by rw [beq_eq_false_iff_ne]; exact e1
          clear e1 hne
          go_wp2_with (refine wpList_load_mid rfl 45 (.tmp 111) rfl bkt (offt + k * 4) rfl _ _ hrs.out Tryz.underlying45 rfl (by kernel_rfl) ?_)
          rw [← hW3]
          clear hW3
          go_roundw
          case rel => exact ⟨HP3, k + 1, by first | rfl | go_num, by omega⟩
          case measure => simp [RowKit.intOf] <;> omega
        ·obtain rfl : i = k := by omega
         have HOi2 : Hid (Only (fun _ => False) w5 wrk) := HP2.out.same HPk.out
         have ewi : IntKind.i64.wrap ((i : Int) + 1) = (i : Int) + 1 := by rw [IntKind.wrap_i64]; omega
         go_wp2_with fail
         go_roundw
         case rel => exact ⟨HOi2, i + 1, by first | rfl | go_num, by omega⟩
         case measure => simp [RowKit.intOf] <;> omega
      ·obtain ⟨p, k1, hpl, hk1, rfl⟩ := h
       have hpn := HLt2.out p hpl
       obtain ⟨yy, hxy⟩ : ∃ y, x.packs[p]? = some y := ⟨_, List.getElem?_eq_getElem (by rw [N_x_packs.out]; omega)⟩
       obtain ⟨bky, offy, ay1, ny1, cy1, ay2, ny2, cy2, ay3, ny3, cy3, ay4, ny4, cy4, ay5, ny5, cy5, ay6, ny6, cy6, hey, N0y1, N0y2, N0y3, N0y4, N0y5, N0y6, oky1, iny1, HE0y⟩ := PackC_at (HR_x_packs.out W0 (Only.refl _ _)) hxy
       first
        | subst hey
        | (simp only [Option.some.injEq, Addr.mk.injEq, and_true] at hey; obtain ⟨rfl, rfl⟩ := hey)
       have Ny1 := Lib.hid N0y1
       have Ny2 := Lib.hid N0y2
       have Ny3 := Lib.hid N0y3
       have Ny4 := Lib.hid N0y4
       have Ny5 := Lib.hid N0y5
       have Ny6 := Lib.hid N0y6
       have HEy := Lib.hid HE0y
       have HXy := Lib.hid hxy
       clear HE0y hxy N0y1 N0y2 N0y3 N0y4 N0y5 N0y6
       have HRy1 : Hid (∀ W, Only (fun _ => False) W0 W → RowT 2 RelC B W (.slice ay1 ny1 cy1) yy.rels) := fun W ho => (HEy.out W ho).2.1
       have HRy2 : Hid (∀ W, Only (fun _ => False) W0 W → RowT 2 VarC B W (.slice ay2 ny2 cy2) yy.vars) := fun W ho => (HEy.out W ho).2.2.1
       have HRy3 : Hid (∀ W, Only (fun _ => False) W0 W → RowT 1 StrC B W (.slice ay3 ny3 cy3) yy.provides) := fun W ho => (HEy.out W ho).2.2.2.1
       have HRy4 : Hid (∀ W, Only (fun _ => False) W0 W → RowT 7 DepC B W (.slice ay4 ny4 cy4) yy.deps) := fun W ho => (HEy.out W ho).2.2.2.2.1
       have HRy5 : Hid (∀ W, Only (fun _ => False) W0 W → RowT 7 ConC B W (.slice ay5 ny5 cy5) yy.cons) := fun W ho => (HEy.out W ho).2.2.2.2.2.1
       have HRy6 : Hid (∀ W, Only (fun _ => False) W0 W → RowT 1 StrC B W (.slice ay6 ny6 cy6) yy.files) := fun W ho => (HEy.out W ho).2.2.2.2.2.2.1
       have HCy : Hid (∀ W, Only (fun _ => False) W0 W → PackC B W [.string yy.name, .int .i64 yy.line, .slice ay1 ny1 cy1, .slice ay2 ny2 cy2, .slice ay3 ny3 cy3, .slice ay4 ny4 cy4, .slice ay5 ny5 cy5, .slice ay6 ny6 cy6] yy) := fun W ho => (HEy.out W ho).2.2.2.2.2.2.2
       have HPg : Hid (x.pack p = yy) := by unfold RecD.pack; rw [List.getD_eq_getElem?_getD, HXy.out]; exact rfl
       rw [HPg.out] at hk1 hx
       rw [Ny5.out] at hk1
       obtain ⟨yu, hxu⟩ : ∃ y, yy.cons[k1]? = some y := ⟨_, List.getElem?_eq_getElem (by rw [Ny5.out]; omega)⟩
       obtain ⟨bku, offu, au1, nu1, cu1, au2, nu2, cu2, au3, nu3, cu3, au4, nu4, cu4, heu, N0u1, N0u2, N0u3, N0u4, oku1, oku2, inu1, HE0u⟩ := ConC_at (HRy5.out W0 (Only.refl _ _)) hxu
       first
        | subst heu
        | (simp only [Option.some.injEq, Addr.mk.injEq, and_true] at heu; obtain ⟨rfl, rfl⟩ := heu)
       have Nu1 := Lib.hid N0u1
       have Nu2 := Lib.hid N0u2
       have Nu3 := Lib.hid N0u3
       have Nu4 := Lib.hid N0u4
       have HEu := Lib.hid HE0u
       have HXu := Lib.hid hxu
       clear HE0u hxu N0u1 N0u2 N0u3 N0u4
       have HRu1 : Hid (∀ W, Only (fun _ => False) W0 W → RowT 2 SpanC B W (.slice au1 nu1 cu1) yu.cond.spans) := fun W ho => (HEu.out W ho).2.1
       have HRu2 : Hid (∀ W, Only (fun _ => False) W0 W → RowT 2 SetC B W (.slice au2 nu2 cu2) yu.cond.sets) := fun W ho => (HEu.out W ho).2.2.1
       have HRu3 : Hid (∀ W, Only (fun _ => False) W0 W → RowT 2 SpanC B W (.slice au3 nu3 cu3) yu.with'.spans) := fun W ho => (HEu.out W ho).2.2.2.1
       have HRu4 : Hid (∀ W, Only (fun _ => False) W0 W → RowT 2 SetC B W (.slice au4 nu4 cu4) yu.with'.sets) := fun W ho => (HEu.out W ho).2.2.2.2.1
       have HCu : Hid (∀ W, Only (fun _ => False) W0 W → ConC B W [.string yu.cond.name, .slice au1 nu1 cu1, .slice au2 nu2 cu2, .string yu.with'.name, .slice au3 nu3 cu3, .slice au4 nu4 cu4, .int .i64 yu.line] yu) := fun W ho => (HEu.out W ho).2.2.2.2.2
       have hln : (yy.cons.getD k1 default).line = yu.line := by rw [List.getD_eq_getElem?_getD, HXu.out]; rfl
       rw [hln] at hx
       have HXL := Lib.hid hx
       clear hx hln
       obtain ⟨_, _, -, hb3, hb4⟩ := (HRy5.out W0 (Only.refl _ _)).shape
       rw [Ny5.out] at hb3
       obtain ⟨bkt, offt, het, -, HE0t⟩ := RuleC_at (HA.out w5 (Only.refl _ _)) HXL.out
       first
        | subst het
        | (simp only [Option.some.injEq, Addr.mk.injEq, and_true] at het; obtain ⟨rfl, rfl⟩ := het)
       have HEt := Lib.hid HE0t
       clear HE0t
       have hrt := Lib.hid (HEt.out wri HOi.out)
       obtain ⟨W2, hW2⟩ : ∃ V, V = wri.alloc (.cells #[.int .u8 3, .int .i64 (p : Int), .int .i64 (k1 : Int), .int .i64 yu.line] 45) := ⟨_, rfl⟩
       have HP2 : Hid (Only (fun _ => False) w5 W2) := by rw [hW2]; exact (HOi.out).alloc _
       have HBd : Hid (∀ W, Only (fun _ => False) W2 W → W.cell? ⟨wri.heap.size, 0, none⟩ = some (.int .u8 3) ∧ W.cell? ⟨wri.heap.size, 1, none⟩ = some (.int .i64 (p : Int)) ∧ W.cell? ⟨wri.heap.size, 2, none⟩ = some (.int .i64 (k1 : Int)) ∧ W.cell? ⟨wri.heap.size, 3, none⟩ = some (.int .i64 yu.line)) := fun W ho => by
        have b0 : W2.heap[wri.heap.size]? = some (.cells #[.int .u8 3, .int .i64 (p : Int), .int .i64 (k1 : Int), .int .i64 yu.line] 45) := by rw [hW2]; exact heap_alloc_new wri _
        have b1 := only_block b0 ho (fun f => f)
        exact ⟨by rw [cell_block b1]; rfl, by rw [cell_block b1]; rfl, by rw [cell_block b1]; rfl, by rw [cell_block b1]; rfl⟩
       obtain ⟨d0, d1, d2, d3⟩ := HBd.out W2 (Only.refl _ _)
       obtain ⟨m0, -, -⟩ := HBox.out W2 (HO5.out.same HP2.out)
       rw [hW2] at d0 d1 d2 d3 m0
       go_wp2_with (refine wpList_load_mid rfl 45 (.tmp 60) rfl bkt (offt + i * 4) rfl _ _ hrt.out Tryz.underlying45 rfl (by kernel_rfl) ?_)
       rw [← hW2]
       clear hW2 d0 d1 d2 d3 m0
       refine wp_region_G (n := 13) (E := fun _ => false) (S := fun W => Only (fun _ => False) W2 W) (by kernel_rfl) rfl (by exact (Only.refl _ _).drew) (fun hHeld => ?_)
       refine tqW (i := 0) (v := ?_) rfl (.inr (by assumption)) ?_ ?_
       rotate_left
       ·(intro w; go_simp <;> (try with_reducible rfl))
       try simp only [Act.put, zq1, zq3, zq4, zq5, zq6]
       refine tqK (i := 1) (v := ?_) rfl ?_ ?_
       rotate_left
       ·(intro w hSw; obtain ⟨m0, -, -⟩ := HBox.out w (HO5.out.same (HP2.out.same hSw)); obtain ⟨-, d1, d2, -⟩ := HBd.out w hSw; have hry := (HEy.out w (HO5.out.same (HP2.out.same hSw))).1; have gy6 := hry 6 _ rfl; clear hry; have hru := (HEu.out w (HO5.out.same (HP2.out.same hSw))).1; have gu6 := hru 6 _ rfl; clear hru; go_simp <;> (try with_reducible rfl))
       try simp only [Act.put, zq1, zq2, zq3, zq4, zq5, zq6]
       refine tqW (i := 2) (v := ?_) rfl (.inr (by assumption)) ?_ ?_
       rotate_left
       ·(intro w; go_simp <;> (try with_reducible rfl))
       try simp only [Act.put, zq1, zq2, zq3, zq4, zq5, zq6]
       refine tqK (i := 3) (v := ?_) rfl ?_ ?_
       rotate_left
       ·(intro w hSw; obtain ⟨m0, -, -⟩ := HBox.out w (HO5.out.same (HP2.out.same hSw)); obtain ⟨-, d1, d2, -⟩ := HBd.out w hSw; have hry := (HEy.out w (HO5.out.same (HP2.out.same hSw))).1; have gy6 := hry 6 _ rfl; clear hry; have hru := (HEu.out w (HO5.out.same (HP2.out.same hSw))).1; have gu6 := hru 6 _ rfl; clear hru; go_simp <;> (try with_reducible rfl))
       try simp only [Act.put, zq1, zq2, zq3, zq4, zq5, zq6]
       refine tqW (i := 4) (v := ?_) rfl (.inr (by assumption)) ?_ ?_
       rotate_left
       ·(intro w; go_simp <;> (try with_reducible rfl))
       try simp only [Act.put, zq1, zq2, zq3, zq4, zq5, zq6]
       refine tqW (i := 5) (v := ?_) rfl (.inr (by assumption)) ?_ ?_
       rotate_left
       ·(intro w; go_simp <;> (try with_reducible rfl))
       try simp only [Act.put, zq1, zq2, zq3, zq4, zq5, zq6]
       refine tqK (i := 6) (v := ?_) rfl ?_ ?_
       rotate_left
       ·(intro w hSw; obtain ⟨m0, -, -⟩ := HBox.out w (HO5.out.same (HP2.out.same hSw)); obtain ⟨-, d1, d2, -⟩ := HBd.out w hSw; have hry := (HEy.out w (HO5.out.same (HP2.out.same hSw))).1; have gy6 := hry 6 _ rfl; clear hry; have hru := (HEu.out w (HO5.out.same (HP2.out.same hSw))).1; have gu6 := hru 6 _ rfl; clear hru; go_simp <;> (try with_reducible rfl))
       try simp only [Act.put, zq1, zq2, zq3, zq4, zq5, zq6]
       refine tqW (i := 7) (v := ?_) rfl (.inr (by assumption)) ?_ ?_
       rotate_left
       ·(intro w; go_simp <;> (try with_reducible rfl))
       try simp only [Act.put, zq1, zq2, zq3, zq4, zq5, zq6]
       refine tqK (i := 8) (v := ?_) rfl ?_ ?_
       rotate_left
       ·(intro w hSw; obtain ⟨m0, -, -⟩ := HBox.out w (HO5.out.same (HP2.out.same hSw)); obtain ⟨-, d1, d2, -⟩ := HBd.out w hSw; have hry := (HEy.out w (HO5.out.same (HP2.out.same hSw))).1; have gy6 := hry 6 _ rfl; clear hry; have hru := (HEu.out w (HO5.out.same (HP2.out.same hSw))).1; have gu6 := hru 6 _ rfl; clear hru; go_simp <;> (try with_reducible rfl))
       try simp only [Act.put, zq1, zq2, zq3, zq4, zq5, zq6]
       refine tqW (i := 9) (v := ?_) rfl (.inr (by assumption)) ?_ ?_
       rotate_left
       ·(intro w; go_simp <;> (try with_reducible rfl))
       try simp only [Act.put, zq1, zq2, zq3, zq4, zq5, zq6]
       refine tqW (i := 10) (v := ?_) rfl (.inr (by assumption)) ?_ ?_
       rotate_left
       ·(intro w; go_simp <;> (try with_reducible rfl))
       try simp only [Act.put, zq1, zq2, zq3, zq4, zq5, zq6]
       refine tqK (i := 11) (v := ?_) rfl ?_ ?_
       rotate_left
       ·(intro w hSw; obtain ⟨m0, -, -⟩ := HBox.out w (HO5.out.same (HP2.out.same hSw)); obtain ⟨-, d1, d2, -⟩ := HBd.out w hSw; have hry := (HEy.out w (HO5.out.same (HP2.out.same hSw))).1; have gy6 := hry 6 _ rfl; clear hry; have hru := (HEu.out w (HO5.out.same (HP2.out.same hSw))).1; have gu6 := hru 6 _ rfl; clear hru; go_simp <;> (try with_reducible rfl))
       try simp only [Act.put, zq1, zq2, zq3, zq4, zq5, zq6]
       refine tqW (i := 12) (v := ?_) rfl (.inr (by assumption)) ?_ ?_
       rotate_left
       ·(intro w; go_simp <;> (try with_reducible rfl))
       try simp only [Act.put, zq1, zq2, zq3, zq4, zq5, zq6]
       refine wpAnyG_done (by kernel_rfl) ?_ _
       have HOC := Lib.hid hHeld
       clear hHeld
       obtain ⟨d0, d1, d2, d3⟩ := HBd.out _ HOC.out
       have hi0 : (0 : Int) ≤ (i : Int) := by omega
       have hi1 : (i : Int) ≤ (cp5 : Int) := by omega
       go_wp2_with fail
       clear d0 d1 d2 d3
       go_loopw [109] (fun vk wrk => Hid (Only (fun _ => False) W2 wrk) ∧ ∃ k : Nat, vk = .int .i64 k ∧ k ≤ i) (fun v _ => i - (RowKit.intOf v).toNat)
       case atStart => exact ⟨HOC, 0, rfl, Nat.zero_le _⟩
       case round =>
        obtain ⟨wrk, rfl⟩ : ∃ W, W = wr := ⟨_, rfl⟩
        clear HOC
        obtain ⟨HPk, k, rfl, hk⟩ := hrel
        by_cases ck : k < i
        ·have ewi : IntKind.i64.wrap ((k : Int) + 1) = (k : Int) + 1 := by rw [IntKind.wrap_i64]; omega
         obtain ⟨s, hxs⟩ : ∃ y, L[k]? = some y := ⟨_, List.getElem?_eq_getElem (by rw [HLn.out]; omega)⟩
         have HXs := Lib.hid hxs
         clear hxs
         obtain ⟨bks, offs, hes, -, HE0s⟩ := RuleC_at (HA.out w5 (Only.refl _ _)) HXs.out
         first
          | subst hes
          | (simp only [Option.some.injEq, Addr.mk.injEq, and_true] at hes; obtain ⟨rfl, rfl⟩ := hes)
         have HEs := Lib.hid HE0s
         clear HE0s
         have HQk : Hid (Only (fun _ => False) w5 wrk) := HP2.out.same HPk.out
         have hrs := Lib.hid (HEs.out wrk HQk.out)
         obtain ⟨W3, hW3⟩ : ∃ V, V = wrk.alloc (.cells #[.int .u8 s.kind, .int .i64 s.pack, .int .i64 s.idx, .int .i64 s.line] 45) := ⟨_, rfl⟩
         have HP3 : Hid (Only (fun _ => False) W2 W3) := by rw [hW3]; exact HPk.out.alloc _
         have HBf : Hid (∀ W, Only (fun _ => False) W3 W → W.cell? ⟨wrk.heap.size, 0, none⟩ = some (.int .u8 s.kind) ∧ W.cell? ⟨wrk.heap.size, 1, none⟩ = some (.int .i64 s.pack) ∧ W.cell? ⟨wrk.heap.size, 2, none⟩ = some (.int .i64 s.idx) ∧ W.cell? ⟨wrk.heap.size, 3, none⟩ = some (.int .i64 s.line)) := fun W ho => by
          have b0 : W3.heap[wrk.heap.size]? = some (.cells #[.int .u8 s.kind, .int .i64 s.pack, .int .i64 s.idx, .int .i64 s.line] 45) := by rw [hW3]; exact heap_alloc_new wrk _
          have b1 := only_block b0 ho (fun f => f)
          exact ⟨by rw [cell_block b1]; rfl, by rw [cell_block b1]; rfl, by rw [cell_block b1]; rfl, by rw [cell_block b1]; rfl⟩
         obtain ⟨d0, d1, d2, d3⟩ := HBd.out W3 HP3.out
         obtain ⟨f0, f1, f2, f3⟩ := HBf.out W3 (Only.refl _ _)
         rw [hW3] at d0 d1 d2 f0 f1 f2
         clear d3 f3
         have hne : ¬ (s.kind = 3 ∧ s.pack = (p : Int) ∧ s.idx = (k1 : Int)) := HNe.out k i s ⟨3, (p : Int), k1, yu.line⟩ (by omega) HXs.out HXL.out
         by_cases e1 : s.kind = 3
         ·have e1' : ((s.kind : Int) == 3) = true := by rw [e1]; simp
          by_cases e2 : s.pack = (p : Int)
          ·have e2' : ((s.pack : Int) == (p : Int)) = true := by rw [e2]; simp
           have e3 : ((s.idx : Int) == (k1 : Int)) = false := by
            rw [beq_eq_false_iff_ne]
            exact fun h => hne ⟨e1, e2, h⟩
           clear e1 e2 hne
           go_wp2_with (refine wpList_load_mid rfl 45 (.tmp 111) rfl bkt (offt + k * 4) rfl _ _ hrs.out Tryz.underlying45 rfl (by kernel_rfl) ?_)
           rw [← hW3]
           clear hW3
           go_roundw
           case rel => exact ⟨HP3, k + 1, by first | rfl | go_num, by omega⟩
           case measure => simp [RowKit.intOf] <;> omega
          ·have e2' : ((s.pack : Int) == (p : Int)) = false := by rw [beq_eq_false_iff_ne]; exact e2
           clear e1 e2 hne
           go_wp2_with (refine wpList_load_mid rfl 45 (.tmp 111) rfl bkt (offt + k * 4) rfl _ _ hrs.out Tryz.underlying45 rfl (by kernel_rfl) ?_)
           rw [← hW3]
           clear hW3
           go_roundw
           case rel => exact ⟨HP3, k + 1, by first | rfl | go_num, by omega⟩
           case measure => simp [RowKit.intOf] <;> omega
         ·have e1' : ((s.kind : Int) == 3) = false := by rw [beq_eq_false_iff_ne]; exact e1
          clear e1 hne
          go_wp2_with (refine wpList_load_mid rfl 45 (.tmp 111) rfl bkt (offt + k * 4) rfl _ _ hrs.out Tryz.underlying45 rfl (by kernel_rfl) ?_)
          rw [← hW3]
          clear hW3
          go_roundw
          case rel => exact ⟨HP3, k + 1, by first | rfl | go_num, by omega⟩
          case measure => simp [RowKit.intOf] <;> omega
        ·obtain rfl : i = k := by omega
         have HOi2 : Hid (Only (fun _ => False) w5 wrk) := HP2.out.same HPk.out
         have ewi : IntKind.i64.wrap ((i : Int) + 1) = (i : Int) + 1 := by rw [IntKind.wrap_i64]; omega
         go_wp2_with fail
         go_roundw
         case rel => exact ⟨HOi2, i + 1, by first | rfl | go_num, by omega⟩
         case measure => simp [RowKit.intOf] <;> omega
     ·obtain rfl : nL = i := by omega
      go_wp2_with fail
      refine (fixed13_any _).mono ?_
      rintro e w9 ⟨rfl, O9⟩
      have HO9 := Lib.hid (HO5.out.same (HOi.out.same O9))
      clear O9
      go_wp2_with fail
      go_ret
      exact ⟨rfl, HOB.out.same HO9.out⟩
end
end Go.Proofs.YtbapkcnfacklaaaGreat

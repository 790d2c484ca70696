/- The walk of cooperlaw19.LearnWhy. -/
import Derived.Test.YtjedgdamommgeaaLrnL1
import Derived.Test.YtjedgdamommgeaaRef18A
set_option linter.unusedVariables false
namespace Go.Proofs.Ytjedgdamommgeaa
open Go.RowKit
open Tr

namespace Tr
open Cnf Up
theorem at_lit {T : Trail} {x : Int} (hx : InI64 x) (h : Cnf.wr x = false) : T.at (x.natAbs : Int) = (T.lvl x, T.why x) := by
  unfold Trail.lvl Trail.why
  rw [(show Cnf.Lit x from ⟨hx, h⟩).abs]
theorem lits_lit {T : Trail} (o : Ok T) {x : Int} (hx : x ∈ T.lits) : Cnf.Lit x := lit_of (o.good.lit x hx).1 (by have := (o.good.lit x hx).2; have := o.n; omega)

/-- what the document's closing tells of what a literal comes of -/
theorem why_end {T : Trail} {n : Nat} {css : List (List Int)} (h : Ran n css T (-1)) {x : Int} (hx : x ∈ T.lits) :
    (allR (T.liveTo T.cls.length) (n + 1) (T.whyL x)).2 = false ∧ value (allR (T.liveTo T.cls.length) (n + 1) (T.whyL x)).1 x = 1 ∧ Up.Good n (allR (T.liveTo T.cls.length) (n + 1) (T.whyL x)).1 := by
  have i := h.has.inv
  have o := i.ok
  have hn := h.has.hn
  obtain ⟨_, hs, hx2⟩ : _ ∧ T.short = [] ∧ T.next = T.ents.length := by
    rcases h.end_ with h1 | ⟨k, hk, _⟩
    · exact h1
    · omega
  obtain ⟨w1, w2, w3⟩ := whyL_law i (i.held_of h.has.whole) (live_among o) hx
  have hC : ∀ c ∈ T.liveTo T.cls.length, Cls n c := fun c hc => by rw [← hn]; exact good_cls (live_cls o hc).1
  have hF : ∀ c ∈ T.liveTo T.cls.length, Fine T.lits T.lits c := fun c hc => by
    obtain ⟨_, k, hk, rfl⟩ := live_cls o hc
    exact fine_mem (fun y => (mem_formL _ y).symm) (fine_of i h.has.whole hs hx2 (getD_mem' [] hk.1 : T.cl k ∈ T.cls))
  have hS : Up.Good n (T.whyL x) := ⟨fun y hy => by rw [← hn]; exact o.good.lit y (w1 y hy).1, by
    unfold List.Nodup
    rw [List.pairwise_map]
    exact w2.imp fun h => Nat.ne_of_lt h⟩
  have hno : (allR (T.liveTo T.cls.length) (n + 1) (T.whyL x)).2 = false := by
    rw [← Bool.not_eq_true, allR_iff hC (n + 1) _ hS (fun _ h => h) (fun _ h => Der.base h) (by omega)]
    exact closed o.good (fun y hy => (w1 y hy).1) hF
  obtain ⟨r1, r2⟩ := allR_der hC (n + 1) _ hS (fun _ h => h) (fun _ h => Der.base h) (by omega) hno
  exact ⟨hno, r1.one.2 (r2 x w3), r1⟩
end Tr

section
variable {w : World}

set_option maxRecDepth 100000 in
set_option maxHeartbeats 3200000 in
theorem LearnWhy_walk {z : Int} (hz : 0 ≤ z ∧ z ≤ 255) {vcs vd : Value} {css : List (List Int)} {ls : List Int} (hI : IntsS w vcs css) (hR : ∀ c ∈ css, c.length ≤ 17592186043904) (hD : Ints w vd ls) {x : Int} (hx : InI64 x) :
    Calls Try.prog 6 #[.int .u8 z, vcs, vd, .int .i64 x] w fun e w' => e = .returned (.bool true) ∧ Only (fun _ => False) w w' := by
  obtain ⟨r, hr⟩ : ∃ r, greatL css ls = r := ⟨_, rfl⟩
  have hG := learn_Great_any hI hD r hr
  obtain ⟨ac, cc, rfl, _, _⟩ := hI.shape
  obtain ⟨ad, cd, rfl, _, _⟩ := hD.shape
  obtain ⟨N, hN⟩ : ∃ N : Nat, z % 41 = (N : Int) := ⟨(z % 41).toNat, by omega⟩
  have hN40 : N ≤ 40 := by omega
  obtain ⟨hz1, hz2⟩ := hz
  have HG := Lib.hid hG
  have HN := Lib.hid hN
  clear hG
  cases r with
  | true =>
    clear hI hD hr HN
    go_enter Try.func6, Try.ntmps6
    go_wp2_with fail
    refine HG.out.mono ?_
    rintro e w1 ⟨rfl, rfl⟩
    go_wp2_with fail
    refine (learn_fixed_any _).mono ?_
    rintro e w1 ⟨rfl, O1⟩
    go_wp2_with fail
    go_ret
    exact ⟨rfl, O1⟩
  | false =>
    obtain ⟨g1, g2, g3⟩ := greatL_no hr
    have HI := Lib.hid hI
    clear hI hr g3
    go_enter Try.func6, Try.ntmps6
    go_wp2_with fail
    refine HG.out.mono ?_
    rintro e w1 ⟨rfl, rfl⟩
    rw [HN.out]
    go_wp2_with fail
    refine (one_New w (N : Int) (by unfold InI64; omega) N (by omega)).mono ?_
    rintro e w1 ⟨b, rfl, H1⟩
    have hRun := learn_Run_any (by omega) H1 HI.out hR (by omega) hD (by omega)
    have HRun := Lib.hid hRun
    clear hRun hD HG H1
    go_wp2_with fail
    refine HRun.out.mono ?_
    rintro e w2 ⟨r, T, rfl, H2, hT⟩
    have hrg := hT.range
    have hon2 := H2.on
    have HO := Lib.hid hT.has.inv.ok
    have HT := Lib.hid hT
    have HSt := Lib.hid H2
    clear hT H2 HRun HI
    by_cases hr0 : 0 ≤ r
    · have d1 : decide (0 ≤ r) = true := decide_eq_true hr0
      go_wp2_with fail
      refine (learn_fixed_any _).mono ?_
      rintro e w3 ⟨rfl, O3⟩
      go_wp2_with fail
      go_ret
      exact ⟨rfl, hon2.same O3⟩
    have hrm : r = -1 := by omega
    subst hrm
    have hWhy := one_Why HSt.out HO.out x hx
    obtain ⟨L, hL⟩ : ∃ L, T.whyL x = L := ⟨_, rfl⟩
    rw [hL] at hWhy
    have HWhy := Lib.hid hWhy
    have HL := Lib.hid hL
    clear hWhy hL hr0
    go_wp2_with fail
    refine HWhy.out.mono ?_
    rintro e w3 ⟨vl, rfl, R3, N3, O3⟩
    have h3 := HSt.out.quiet O3
    have hon3 := h3.on
    obtain ⟨v, hv⟩ : ∃ v, T.val x = v := ⟨_, rfl⟩
    have hval := one_Value h3 HO.out x hx v hv
    have HVal := Lib.hid hval
    have HV := Lib.hid hv
    have H3 := Lib.hid h3
    clear hval hv h3 HWhy HSt O3
    by_cases hv1 : v = 1
    · subst hv1
      have hmem : x ∈ T.lits := HO.out.one.1 HV.out
      have hend := why_end HT.out hmem
      have hi := HT.out.has.inv
      have hlaw := whyL_law hi (hi.held_of HT.out.has.whole) (live_among HO.out) hmem
      rw [HL.out] at hend hlaw
      have hLr : ∀ y ∈ L, InI64 y := fun y hy => (lits_lit HO.out (hlaw.1 y hy).1).r
      have IL := Ints.of_own R3 hLr
      obtain ⟨alv, clv, hvl, hcl1, hcl2⟩ := IL.shape
      subst hvl
      have hLl : L.length ≤ 65536 := by
        have hg : Up.Good T.n L := ⟨fun y hy => HO.out.good.lit y (hlaw.1 y hy).1, by
          unfold List.Nodup
          rw [List.pairwise_map]
          exact hlaw.2.1.imp fun h => Nat.ne_of_lt h⟩
        have := hg.len
        have := HO.out.n
        omega
      have HEnd := Lib.hid hend
      have HLaw := Lib.hid hlaw
      have HIL := Lib.hid IL
      have HLx := Lib.hid (lits_lit HO.out hmem)
      clear hend hlaw hLr IL hi hmem R3 N3 HL
      go_wp2_with fail
      refine HVal.out.mono ?_
      rintro e w4 ⟨rfl, rfl⟩
      go_wp2_with fail
      go_loopw [48] (fun v wr => ∃ k : Nat, v = .int .i64 k ∧ k ≤ L.length ∧ One w wr b T ∧ Only (fun _ => False) w3 wr) (fun v _ => L.length - (intOf v).toNat)
      case atStart => exact ⟨0, rfl, Nat.zero_le _, H3.out, Only.refl _ _⟩
      case round =>
        clear H3 HVal
        obtain ⟨k, rfl, hk, hO, hO3⟩ := hrel
        have HOne := Lib.hid hO
        clear hO
        by_cases ck : k < L.length
        · obtain ⟨bl, ol, rfl, _, hls⟩ := (HIL.out.only0 hO3).cells _ _ _ rfl (by omega)
          have q := hls k ck
          obtain ⟨u, hu⟩ : ∃ u, L.getD k 0 = u := ⟨_, rfl⟩
          have hum : u ∈ L := by rw [← hu]; exact getD_mem' 0 ck
          obtain ⟨u1, u2, u3⟩ := HLaw.out.1 u hum
          have ul := lits_lit HO.out u1
          have HA := Lib.hid (Atom_any (w := wr) u ul.r ul.w)
          have hat := one_At HOne.out HO.out (u.natAbs : Int) (natAbs_in ul.r ul.w) _ (at_lit ul.r ul.w)
          rw [u3] at hat
          obtain ⟨M, hM⟩ : ∃ M, T.lvl u = M := ⟨_, rfl⟩
          rw [hM] at hat u2
          have hvu := fun W (ho : Only (fun _ => False) wr W) => (one_Value (HOne.out.quiet ho) HO.out u ul.r 1 (HO.out.one.2 u1)).mono fun _ _ h => (⟨h.1, h.2.symm⟩ : _ ∧ _ = W)
          have HVu := Lib.hid hvu
          have hau := fun W => (Atom_any (w := W) u ul.r ul.w).mono fun _ _ h => (⟨h.1, h.2.symm⟩ : _ ∧ _ = W)
          have HAu := Lib.hid hau
          have HAt := Lib.hid hat
          have eM : (M == 0) = false := by rw [beq_eq_false_iff_ne]; omega
          have ewk : IntKind.i64.wrap ((k : Int) + 1) = ((k + 1 : Nat) : Int) := by rw [IntWalk.i64_in _ (by omega)]; rfl
          rw [hu] at q
          have HU := Lib.hid hu
          have HLs := Lib.hid hls
          have hprev : 0 < k → (L.getD (k - 1) 0).natAbs < u.natAbs ∧ Cnf.Lit (L.getD (k - 1) 0) := fun h0 => by
            have hp := HLaw.out.2.1
            rw [List.pairwise_iff_getElem] at hp
            have h1 := hp (k - 1) k (by omega) ck (by omega)
            have e1 : L.getD (k - 1) 0 = L[k - 1] := by simp [List.getD_eq_getElem?_getD, show k - 1 < L.length by omega]
            have e2 : u = L[k] := by rw [← hu]; simp [List.getD_eq_getElem?_getD, ck]
            rw [e1, e2]
            exact ⟨h1, lits_lit HO.out (HLaw.out.1 _ (List.getElem_mem (show k - 1 < L.length by omega))).1⟩
          have HPrev := Lib.hid hprev
          have HUl := Lib.hid ul
          clear hls hat hvu hau hM u1 u3 hum hu hprev ul
          by_cases k0 : k = 0
          · subst k0
            simp only [Nat.add_zero] at q
            generalize u.natAbs = ua at *
            go_wp2_with fail
            refine HA.out.mono ?_
            rintro e w4 ⟨rfl, rfl⟩
            go_wp2_with fail
            refine HAt.out.mono ?_
            rintro e w4 ⟨rfl, O4⟩
            have hfin : One w w4 b T ∧ Only (fun _ => False) w3 w4 := ⟨HOne.out.quiet O4, hO3.same O4⟩
            have HFin := Lib.hid hfin
            have HO4 := Lib.hid O4
            clear hfin O4
            go_wp2_with fail
            refine (HVu.out _ HO4.out).mono ?_
            rintro e w5 ⟨rfl, rfl⟩
            go_wp2_with fail
            go_roundw
            case rel => exact ⟨1, by first | rfl | go_num, by omega, HFin.out.1, HFin.out.2⟩
            case measure => simp [intOf]; omega
          · obtain ⟨hlt, hpl⟩ := HPrev.out (by omega)
            have q1 := HLs.out (k - 1) (by omega)
            obtain ⟨p, hpe⟩ : ∃ p, L.getD (k - 1) 0 = p := ⟨_, rfl⟩
            rw [hpe] at hlt hpl q1
            have hap := fun W => (Atom_any (w := W) p hpl.r hpl.w).mono fun _ _ h => (⟨h.1, h.2.symm⟩ : _ ∧ _ = W)
            have HAp := Lib.hid hap
            have ek1 : IntKind.i64.wrap ((k : Int) - 1) = ((k - 1 : Nat) : Int) := by rw [IntWalk.i64_in _ (by omega)]; omega
            have dk : decide (0 < k) = true := decide_eq_true (by omega)
            have dk' : decide ((0 : Int) < (k : Int)) = true := decide_eq_true (by omega)
            clear hpe hap hpl
            generalize u.natAbs = ua at *
            generalize p.natAbs = pa at *
            have dlt : decide (ua ≤ pa) = false := decide_eq_false (by omega)
            go_wp2_with fail
            refine HA.out.mono ?_
            rintro e w4 ⟨rfl, rfl⟩
            go_wp2_with fail
            refine HAt.out.mono ?_
            rintro e w4 ⟨rfl, O4⟩
            have hfin : One w w4 b T ∧ Only (fun _ => False) w3 w4 := ⟨HOne.out.quiet O4, hO3.same O4⟩
            have HFin := Lib.hid hfin
            have HO4 := Lib.hid O4
            have q2 := cell_keep q1 O4 (fun f => f)
            clear hfin O4 q1
            go_wp2_with fail
            refine (HVu.out _ HO4.out).mono ?_
            rintro e w5 ⟨rfl, rfl⟩
            go_wp2_with fail
            refine (HAp.out _).mono ?_
            rintro e w5 ⟨rfl, rfl⟩
            go_wp2_with fail
            refine (HAu.out _).mono ?_
            rintro e w5 ⟨rfl, rfl⟩
            go_wp2_with fail
            go_roundw
            case rel => exact ⟨k + 1, by first | rfl | go_num, by omega, HFin.out.1, HFin.out.2⟩
            case measure => simp [intOf]; omega
        · obtain rfl : k = L.length := by omega
          have hlive := learn_live_any HOne.out HO.out
          have HLive := Lib.hid hlive
          clear hlive
          go_wp2_with fail
          refine HLive.out.mono ?_
          rintro e w5 ⟨vc, rfl, IC, O5⟩
          have hle := liveTo_len T T.cls.length
          have hcb : T.cls.length ≤ 120 := by
            have := HT.out.has.len; omega
          have hAll := All_any (HIL.out.only0 (hO3.same O5)) IC (fun c hc y hy => by
            have hg := (live_cls HO.out hc).1.lit y hy
            have := HO.out.n
            exact lit_of hg.1 (by omega)) N (by
              have : (N + 1) * (T.liveTo T.cls.length).length ≤ 41 * 120 := Nat.mul_le_mul (by omega) (by omega)
              omega) (by omega) (N : Int) rfl
          have h5 := HOne.out.quiet O5
          have hon5 := h5.on
          obtain ⟨p, hp⟩ : ∃ p, Cnf.allR (T.liveTo T.cls.length) (N + 1) L = p := ⟨_, rfl⟩
          have hend := HEnd.out
          rw [hp] at hAll hend
          obtain ⟨S, cf⟩ := p
          obtain ⟨e1, e2, e3⟩ := hend
          simp only at e1 e2 e3
          subst e1
          have HAll := Lib.hid hAll
          have HE2 := Lib.hid e2
          have hSr : ∀ y ∈ S, InI64 y := fun y hy => by have := e3.lit y hy; unfold InI64; omega
          have HSr := Lib.hid hSr
          obtain ⟨ac2, cc2, rfl, _, _⟩ := IC.shape
          clear hAll h5 IC HLive hle hp e2 e3 hSr
          go_wp2_with fail
          refine HAll.out.mono ?_
          rintro e w6 ⟨va, rfl, R6, N6, O6⟩
          have I6 := Ints.of_own R6 HSr.out
          obtain ⟨a6, c6, rfl, _, _⟩ := I6.shape
          have hon6 := hon5.same O6
          clear R6 N6 O6 HAll
          go_wp2_with fail
          refine (learn_fixed_any _).mono ?_
          rintro e w7 ⟨rfl, O7⟩
          have hval := Value_any (I6.only0 O7) x HLx.out 1 HE2.out
          have HVal2 := Lib.hid hval
          clear hval
          go_wp2_with fail
          refine HVal2.out.mono ?_
          rintro e w8 ⟨rfl, rfl⟩
          go_wp2_with fail
          go_ret
          exact ⟨rfl, hon6.same O7⟩
    · have hv0 : T.val x ≤ 0 := by have := val3 T x; rw [HV.out] at this ⊢; omega
      have hL0 : L = [] := by rw [← HL.out]; unfold Trail.whyL; rw [if_pos hv0]
      subst hL0
      obtain ⟨al, cl, rfl, -, -⟩ := own_slice R3
      have e1 : (v != 1) = true := by rw [bne_iff_ne]; exact hv1
      clear hv0 R3 N3 HL
      go_wp2_with fail
      refine HVal.out.mono ?_
      rintro e w4 ⟨rfl, rfl⟩
      go_wp2_with fail
      refine (learn_fixed_any _).mono ?_
      rintro e w5 ⟨rfl, O5⟩
      go_wp2_with fail
      go_ret
      exact ⟨rfl, hon3.same O5⟩
end
end Go.Proofs.Ytjedgdamommgeaa

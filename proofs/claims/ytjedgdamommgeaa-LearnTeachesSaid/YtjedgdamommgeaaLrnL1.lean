/- The walk of cooperlaw19.LearnLevels. -/
import Derived.Test.YtjedgdamommgeaaLrn13
set_option linter.unusedVariables false
namespace Go.Proofs.Ytjedgdamommgeaa
open Go.RowKit
open Tr

namespace Tr
theorem lvl_wr {T : Trail} {x : Int} (h : Cnf.wr x = true) : T.lvl x = -1 := by
  unfold Cnf.wr Cnf.minI at h
  simp only [Bool.or_eq_true, beq_iff_eq] at h
  unfold Trail.lvl Trail.at
  rcases h with rfl | rfl
  · rw [if_neg (by rintro ⟨h1, _⟩; revert h1; decide)]
  · rw [if_neg (by rintro ⟨h1, _⟩; revert h1; decide)]
theorem lvl_lit {T : Trail} {x : Int} (hx : InI64 x) (h : Cnf.wr x = false) : (T.at (x.natAbs : Int)).1 = T.lvl x := by
  unfold Trail.lvl
  rw [(show Cnf.Lit x from ⟨hx, h⟩).abs]
theorem natAbs_in {x : Int} (hx : InI64 x) (h : Cnf.wr x = false) : InI64 (x.natAbs : Int) := by
  unfold Cnf.wr Cnf.minI at h
  simp only [Bool.or_eq_false_iff, beq_eq_false_iff_ne] at h
  unfold InI64 at *
  omega
/-- is it fresh, as far as the first j say? -/
def Trail.fresh (T : Trail) (l : List Int) (i j : Nat) : Bool := decide (0 ≤ T.lvl (l.getD i 0)) && (l.take j).all fun m => decide (T.lvl m ≠ T.lvl (l.getD i 0))
theorem fresh_zero (T : Trail) (l : List Int) (i : Nat) : T.fresh l i 0 = decide (0 ≤ T.lvl (l.getD i 0)) := by simp [Trail.fresh]
theorem fresh_succ (T : Trail) (l : List Int) (i : Nat) {j : Nat} (hj : j < l.length) : T.fresh l i (j + 1) = (T.fresh l i j && decide (T.lvl (l.getD j 0) ≠ T.lvl (l.getD i 0))) := by
  unfold Trail.fresh
  rw [take_snocI l j hj, List.all_append]
  simp [Bool.and_assoc]
theorem fresh_wr (T : Trail) (l : List Int) (i : Nat) {j : Nat} (hj : j < l.length) (h : Cnf.wr (l.getD j 0) = true) : T.fresh l i (j + 1) = T.fresh l i j := by
  rw [fresh_succ T l i hj, lvl_wr h]
  unfold Trail.fresh
  by_cases h0 : 0 ≤ T.lvl (l.getD i 0)
  · have : decide ((-1 : Int) ≠ T.lvl (l.getD i 0)) = true := decide_eq_true (by omega)
    rw [this]; simp
  · rw [decide_eq_false h0]; simp
theorem fresh_all (T : Trail) (l : List Int) (i : Nat) : T.fresh l i i = T.freshAt l i := rfl
theorem count_le (T : Trail) (l : List Int) : ∀ k, T.count l k ≤ k
  | 0 => Nat.le_refl _
  | k + 1 => by have := count_le T l k; unfold Trail.count; split <;> omega
end Tr

section
variable {w : World}

set_option maxRecDepth 100000 in
set_option maxHeartbeats 3200000 in
theorem LearnLevels_walk {z : Int} (hz : 0 ≤ z ∧ z ≤ 255) {vcs vd vc : Value} {css : List (List Int)} {ls c : List Int} (hI : IntsS w vcs css) (hR : ∀ c ∈ css, c.length ≤ 17592186043904) (hD : Ints w vd ls) (hC : Ints w vc c) :
    Calls Try.prog 4 #[.int .u8 z, vcs, vd, vc] w fun e w' => e = .returned (.bool true) ∧ Only (fun _ => False) w w' := by
  obtain ⟨r, hr⟩ : ∃ r, greatL css ls = r := ⟨_, rfl⟩
  have hG := learn_Great_any hI hD r hr
  obtain ⟨ac, cc, rfl, _, _⟩ := hI.shape
  obtain ⟨ad, cd, rfl, _, _⟩ := hD.shape
  obtain ⟨al, cl, rfl, hl1, hl2⟩ := hC.shape
  obtain ⟨N, hN⟩ : ∃ N : Nat, z % 41 = (N : Int) := ⟨(z % 41).toNat, by omega⟩
  have hN40 : N ≤ 40 := by omega
  obtain ⟨hz1, hz2⟩ := hz
  have HG := Lib.hid hG
  have HN := Lib.hid hN
  clear hG
  cases r with
  | true =>
    clear hI hD hC hr HN
    go_enter Try.func4, Try.ntmps4
    go_wp2_with fail
    refine HG.out.mono ?_
    rintro e w1 ⟨rfl, rfl⟩
    go_wp2_with fail
    refine (learn_fixed_any _).mono ?_
    rintro e w1 ⟨rfl, O1⟩
    go_wp2_with fail
    go_ret
    exact ⟨rfl, O1⟩
  | false =>
    obtain ⟨g1, g2, g3⟩ := greatL_no hr
    by_cases h1 : 100 < c.length
    · have d1 : decide (100 < c.length) = true := decide_eq_true h1
      clear hI hD hC hr HN
      go_enter Try.func4, Try.ntmps4
      go_wp2_with fail
      refine HG.out.mono ?_
      rintro e w1 ⟨rfl, rfl⟩
      go_wp2_with fail
      refine (learn_fixed_any _).mono ?_
      rintro e w1 ⟨rfl, O1⟩
      go_wp2_with fail
      go_ret
      exact ⟨rfl, O1⟩
    have d1 : decide (100 < c.length) = false := decide_eq_false h1
    have HI := Lib.hid hI
    clear hI hr g3
    go_enter Try.func4, Try.ntmps4
    go_wp2_with fail
    refine HG.out.mono ?_
    rintro e w1 ⟨rfl, rfl⟩
    go_wp2_with fail
    refine (one_New w (N : Int) (by unfold InI64; omega) N (by omega)).mono ?_
    rintro e w1 ⟨b, rfl, H1⟩
    have hRun := learn_Run_any (by omega) H1 HI.out hR (by omega) hD (by omega)
    have HRun := Lib.hid hRun
    clear hRun hD HG H1
    go_wp2_with fail
    refine HRun.out.mono ?_
    rintro e w2 ⟨r, T, rfl, H2, hT⟩
    have o := hT.has.inv.ok
    have HO := Lib.hid o
    have HSt := Lib.hid H2
    clear hT H2 HRun HI
    go_wp2_with fail
    go_loopw [40, 11] (fun v vn wr => ∃ k : Nat, v = .int .i64 k ∧ k ≤ c.length ∧ vn = .int .i64 (T.count c k : Int) ∧ One w wr b T) (fun v _ _ => c.length - (intOf v).toNat)
    case atStart => exact ⟨0, rfl, Nat.zero_le _, rfl, HSt.out⟩
    case round =>
      clear HSt
      obtain ⟨k, rfl, hk, rfl, hO⟩ := hrel
      have hon := hO.on
      have hcl := count_le T c k
      by_cases ck : k < c.length
      · obtain ⟨bl, ol, rfl, _, hls⟩ := hC.cells _ _ _ rfl (by omega)
        have q := cell_keep (hls k ck) hon (fun f => f)
        have hx := hC.range' k
        have hf0 := fresh_zero T c k
        have hcount : T.count c (k + 1) = T.count c k + if T.freshAt c k then 1 else 0 := rfl
        obtain ⟨x, hxe⟩ : ∃ x, c.getD k 0 = x := ⟨_, rfl⟩
        obtain ⟨L, hL⟩ : ∃ L, T.lvl x = L := ⟨_, rfl⟩
        have hLr := o.lvl_rng x
        rw [hL] at hLr
        rw [hxe] at hf0
        rw [hL] at hf0
        have HX := Lib.hid (And.intro hxe hL)
        have HCo := Lib.hid hcount
        have HF0 := Lib.hid hf0
        have ewk : IntKind.i64.wrap ((k : Int) + 1) = ((k + 1 : Nat) : Int) := by rw [IntWalk.i64_in _ (by omega)]; rfl
        have ewc : IntKind.i64.wrap ((T.count c k : Int) + 1) = ((T.count c k + 1 : Nat) : Int) := by rw [IntWalk.i64_in _ (by omega)]; rfl
        have HLs := Lib.hid hls
        have HOne := Lib.hid hO
        rw [hxe] at q hx
        clear hcount hf0 hls hO
        -- the inner loop, from the level on
        have hstep : ∀ (j : Nat), j < k → Cnf.wr (c.getD j 0) = true ∨ (Cnf.wr (c.getD j 0) = false ∧ T.fresh c k (j + 1) = (T.fresh c k j && decide (T.lvl (c.getD j 0) ≠ L))) := fun j hj => by
          cases hw : Cnf.wr (c.getD j 0)
          · refine .inr ⟨rfl, ?_⟩
            rw [fresh_succ T c k (by omega), hxe, hL]
          · exact .inl rfl
        have HStep := Lib.hid hstep
        clear hstep
        obtain ⟨bw, hbw⟩ : ∃ bw, Cnf.wr x = bw := ⟨_, rfl⟩
        have HBw := Lib.hid hbw
        have hne := None_any (w := wr) x hx bw hbw
        have HNe := Lib.hid hne
        clear hne hbw hxe hL
        go_upto_if 47 with fail
        refine HNe.out.mono ?_
        rintro e w3 ⟨rfl, rfl⟩
        go_upto_if 47 with fail
        go_cut [14] (fun v wx => v = .int .i64 L ∧ Only (fun _ => False) wr wx)
        case first =>
          cases bw with
          | true =>
            have hl1 : L = -1 := by rw [← HX.out.2]; exact lvl_wr HBw.out
            subst hl1
            go_wp2_with fail
            go_meet
            exact ⟨rfl, Only.refl _ _⟩
          | false =>
            have HA := Lib.hid (Atom_any (w := wr) x hx HBw.out)
            have hat := one_At HOne.out HO.out (x.natAbs : Int) (natAbs_in hx HBw.out) _ rfl
            rw [lvl_lit hx HBw.out, HX.out.2] at hat
            have HAt := Lib.hid hat
            clear hat
            go_wp2_with fail
            refine HA.out.mono ?_
            rintro e w3 ⟨rfl, rfl⟩
            go_wp2_with fail
            refine HAt.out.mono ?_
            rintro e w3 ⟨rfl, O3⟩
            go_wp2_with fail
            go_meet
            exact ⟨rfl, O3⟩
        case rest =>
        obtain ⟨rfl, O4⟩ := hcut
        have hst4 : One w wc b T := HOne.out.quiet O4
        have HSt4 := Lib.hid hst4
        clear hst4 HOne HNe O4 q
        go_wp2_with fail
        go_loopw [61, 15] (fun v vf wr => ∃ j : Nat, v = .int .i64 j ∧ j ≤ k ∧ vf = .bool (T.fresh c k j) ∧ One w wr b T) (fun v _ _ => k - (intOf v).toNat)
        case atStart => exact ⟨0, rfl, Nat.zero_le _, by rw [HF0.out], HSt4.out⟩
        case round =>
          clear HSt4
          obtain ⟨j, rfl, hj, rfl, hO2⟩ := hrel
          have hon2 := hO2.on
          have HOne2 := Lib.hid hO2
          clear hO2
          by_cases cj : j < k
          · have q2 := cell_keep (HLs.out j (by omega)) hon2 (fun f => f)
            have hy := hC.range' j
            have hsj := HStep.out j cj
            obtain ⟨y, hye⟩ : ∃ y, c.getD j 0 = y := ⟨_, rfl⟩
            rw [hye] at q2 hy hsj
            have HYe := Lib.hid hye
            obtain ⟨fj, hfj⟩ : ∃ f, T.fresh c k j = f := ⟨_, rfl⟩
            obtain ⟨fn, hfn⟩ : ∃ f, T.fresh c k (j + 1) = f := ⟨_, rfl⟩
            have hwrj : Cnf.wr y = true → fn = fj := fun h => by rw [← hfn, ← hfj]; exact fresh_wr T c k (by omega) (by rw [hye]; exact h)
            rw [hfn, hfj] at hsj
            have HFn := Lib.hid hfn
            have HSj := Lib.hid hsj
            have HWj := Lib.hid hwrj
            rw [hfj]
            have ewj : IntKind.i64.wrap ((j : Int) + 1) = ((j + 1 : Nat) : Int) := by rw [IntWalk.i64_in _ (by omega)]; rfl
            clear hye hfj hfn hsj hwrj
            obtain ⟨bw2, hbw2⟩ : ∃ bw, Cnf.wr y = bw := ⟨_, rfl⟩
            have HBw2 := Lib.hid hbw2
            have hne := None_any (w := wr) y hy bw2 hbw2
            have HNe := Lib.hid hne
            clear hne hbw2
            cases bw2 with
            | true =>
              have hff := HWj.out HBw2.out
              subst hff
              clear HSj HWj
              go_wp2_with fail
              refine HNe.out.mono ?_
              rintro e w3 ⟨rfl, rfl⟩
              go_wp2_with fail
              go_roundw
              case rel => exact ⟨j + 1, by first | rfl | go_num, by omega, by rw [HFn.out], HOne2.out⟩
              case measure => simp [intOf]; omega
            | false =>
              have HA := Lib.hid (Atom_any (w := wr) y hy HBw2.out)
              have hat := one_At HOne2.out HO.out (y.natAbs : Int) (natAbs_in hy HBw2.out) _ rfl
              rw [lvl_lit hy HBw2.out] at hat
              have hs2 : fn = (fj && decide (T.lvl y ≠ L)) := by
                rcases HSj.out with h | ⟨_, h⟩
                · rw [HBw2.out] at h; cases h
                · exact h
              obtain ⟨M, hM⟩ : ∃ M, T.lvl y = M := ⟨_, rfl⟩
              rw [hM] at hat hs2
              have HAt := Lib.hid hat
              have HS2 := Lib.hid hs2
              clear hat hs2 hM HSj HWj
              go_wp2_with fail
              refine HNe.out.mono ?_
              rintro e w3 ⟨rfl, rfl⟩
              go_wp2_with fail
              refine HA.out.mono ?_
              rintro e w3 ⟨rfl, rfl⟩
              go_wp2_with fail
              refine HAt.out.mono ?_
              rintro e w3 ⟨rfl, O3⟩
              have H3 := Lib.hid (HOne2.out.quiet O3)
              clear HAt HA HNe HOne2 O3
              cases fj with
              | true =>
                by_cases hml : M = L
                · subst hml
                  have hf : fn = false := by rw [HS2.out]; simp
                  subst hf
                  go_wp2_with fail
                  go_roundw
                  case rel => exact ⟨j + 1, by first | rfl | go_num, by omega, by rw [HFn.out], H3.out⟩
                  case measure => simp [intOf]; omega
                · have e1 : (M != L) = true := by rw [bne_iff_ne]; exact hml
                  have hf : fn = true := by rw [HS2.out]; simp [hml]
                  subst hf
                  go_wp2_with fail
                  go_roundw
                  case rel => exact ⟨j + 1, by first | rfl | go_num, by omega, by rw [HFn.out], H3.out⟩
                  case measure => simp [intOf]; omega
              | false =>
                have hf : fn = false := by rw [HS2.out]; simp
                subst hf
                go_wp2_with fail
                go_roundw
                case rel => exact ⟨j + 1, by first | rfl | go_num, by omega, by rw [HFn.out], H3.out⟩
                case measure => simp [intOf]; omega
          · obtain rfl : j = k := by omega
            rw [fresh_all]
            obtain ⟨fk, hfk⟩ : ∃ f, T.freshAt c j = f := ⟨_, rfl⟩
            have hco := HCo.out
            rw [hfk] at hco ⊢
            have HCo2 := Lib.hid hco
            clear hco hfk
            cases fk with
            | true =>
              go_wp2_with fail
              go_roundw
              case rel => exact ⟨j + 1, by first | rfl | go_num, by omega, by rw [HCo2.out]; first | rfl | go_num, HOne2.out⟩
              case measure => simp [intOf]; omega
            | false =>
              go_wp2_with fail
              go_roundw
              case rel => exact ⟨j + 1, by first | rfl | go_num, by omega, by rw [HCo2.out]; first | rfl | go_num, HOne2.out⟩
              case measure => simp [intOf]; omega
      · obtain rfl : k = c.length := by omega
        have hcnt := count_levs T c c.length (Nat.le_refl _)
        rw [List.take_of_length_le (Nat.le_refl _)] at hcnt
        have HCnt := Lib.hid hcnt
        have HOne := Lib.hid hO
        have hCr := hC
        have HC2 := Lib.hid hC
        clear hcnt hO hcl hC hCr
        generalize T.count c c.length = m at *
        go_wp2_with fail
        refine (learn_fixed_any _).mono ?_
        rintro e w3 ⟨rfl, O3⟩
        have h3 := HOne.out.quiet O3
        have hlv := one_Levels h3 HO.out (HC2.out.only0 (hon.same O3)) (by omega)
        rw [← HCnt.out] at hlv
        have HLv := Lib.hid hlv
        have hon3 := hon.same O3
        clear hlv h3 HOne
        go_wp2_with fail
        refine HLv.out.mono ?_
        rintro e w4 ⟨rfl, O4⟩
        go_wp2_with fail
        go_ret
        exact ⟨rfl, hon3.same O4⟩
end
end Go.Proofs.Ytjedgdamommgeaa

/- The walk of cooperlaw22.RupFollows. -/
import Derived.Test.YtjbfgafkjejdjaaRupL2
namespace Go.Proofs.Ytjbfgafkjejdjaa
open Go.RowKit

theorem greatB_le {css : List (List Int)} {ps : List (Bool × List Int)} (h : greatB css ps = false) : css.length ≤ 80 ∧ ps.length ≤ 60 ∧ (∀ c ∈ css, c.length ≤ 12) ∧ ∀ p ∈ ps, p.2.length ≤ 12 := by
  unfold greatB at h
  simp only [Bool.or_eq_false_iff, decide_eq_false_iff_not, List.any_eq_false, decide_eq_true_eq] at h
  obtain ⟨⟨⟨h1, h2⟩, h3⟩, h4⟩ := h
  exact ⟨by omega, by omega, fun c hc => by have := h3 c hc; omega, fun p hp => by have := h4 p hp; omega⟩

theorem IntsS.range {w : World} {v : Value} {css : List (List Int)} (h : IntsS w v css) : ∀ c ∈ css, ∀ x ∈ c, InI64 x := by
  intro c hc
  obtain ⟨us, _, h2⟩ := h
  obtain ⟨i, hi, rfl⟩ := List.getElem_of_mem hc
  have := (h2.2 i hi).range
  simpa [List.getD_eq_getElem?_getD, hi] using this

theorem mulle {a b c d : Nat} (h1 : a ≤ c) (h2 : b ≤ d) : a * b ≤ c * d := Nat.mul_le_mul h1 h2

section
variable {w : World}

set_option maxHeartbeats 1600000 in
theorem RupFollows_walk {n : Int} {vcs vc : Value} {css : List (List Int)} {c : List Int} (hI : IntsS w vcs css) (hc : Ints w vc c) :
    Calls Try.prog 6 #[.int .i64 n, vcs, vc] w fun e w' => e = .returned (.bool true) ∧ Only (fun _ => False) w w' := by
  obtain ⟨ac, cc, rfl, _, _⟩ := hI.shape
  obtain ⟨al, cl, rfl, hl1, hl2⟩ := hc.shape
  by_cases hn : 30 < n
  · have d1 : decide (n > 30) = true := decide_eq_true hn
    have d2 : decide (30 < n) = true := decide_eq_true hn
    go_enter Try.func6, Try.ntmps6
    go_wp2_with fail
    refine rup_fixed_any.mono ?_
    rintro e w1 ⟨rfl, O1⟩
    go_wp2_with fail
    go_ret
    exact ⟨rfl, O1⟩
  · have d2 : decide (30 < n) = false := decide_eq_false hn
    cases hg : greatB css []
    · have hgl := greatB_le hg
      have HG := Lib.hid hg
      clear hg
      by_cases hcl : 12 < c.length
      · have d3 : decide ((12 : Int) < (c.length : Int)) = true := decide_eq_true (by omega)
        go_enter Try.func6, Try.ntmps6
        go_wp2_with fail
        refine (great_any hI (StepsAt.nil w) false HG.out).mono ?_
        rintro e w1 ⟨rfl, O1⟩
        go_wp2_with fail
        refine rup_fixed_any.mono ?_
        rintro e w2 ⟨rfl, O2⟩
        go_wp2_with fail
        go_ret
        exact ⟨rfl, O1.same O2⟩
      · have d3 : decide ((12 : Int) < (c.length : Int)) = false := decide_eq_false (by omega)
        obtain ⟨N, hN⟩ : ∃ N : Nat, (N : Int) = max 0 n := ⟨(max 0 n).toNat, by omega⟩
        have hN30 : N ≤ 30 := by omega
        have hN2 : (N : Int) = min (max n 0) 65536 := by omega
        have hmax : max 0 n = (N : Int) := hN.symm
        obtain ⟨hg1, -, hg2, -⟩ := hgl
        have HG2 := Lib.hid hg2
        have HN2 := Lib.hid hN2
        clear hN hN2 hg2
        go_enter Try.func6, Try.ntmps6
        go_wp2_with fail
        refine (great_any hI (StepsAt.nil w) false HG.out).mono ?_
        rintro e w1 ⟨rfl, O1⟩
        go_wp2_with fail
        go_loopw [26] (fun v wr => ∃ k : Nat, v = .int .i64 k ∧ k ≤ c.length ∧ c.any (fun x => !Cnf.okAt N x) = (c.drop k).any (fun x => !Cnf.okAt N x) ∧ Only (fun _ => False) w wr) (fun v _ => c.length - (intOf v).toNat)
        case atStart => exact ⟨0, rfl, Nat.zero_le _, rfl, O1⟩
        case round =>
          obtain ⟨k, rfl, hk, hA, hO⟩ := hrel
          by_cases ck : k < c.length
          · obtain ⟨b, off, rfl, _, hcs⟩ := (hc.only0 hO).cells _ _ _ rfl (by omega)
            have q := hcs k ck
            have hx := hc.range' k
            rw [any_drop _ 0 ck] at hA
            have HA := Lib.hid hA
            have HX := Lib.hid hx
            clear hA hcs hx
            generalize c.getD k 0 = x at *
            have hok : Cnf.okAt N x = (!Cnf.wr x && decide ((x.natAbs : Int) ≤ N)) := rfl
            have HOk := Lib.hid hok
            clear hok
            cases hw : Cnf.wr x
            · have HW := Lib.hid hw
              clear hw
              by_cases hle : (x.natAbs : Int) ≤ N
              · have d4 : decide (N < x.natAbs) = false := decide_eq_false (by omega)
                have HLE := Lib.hid hle
                clear hle
                go_wp2_with fail
                refine (None_any x HX.out false HW.out).mono ?_
                rintro e w' ⟨rfl, rfl⟩
                go_wp2_with fail
                refine (Atom_any x HX.out HW.out).mono ?_
                rintro e w' ⟨rfl, rfl⟩
                go_wp2_with fail
                go_roundw
                case rel => exact ⟨k + 1, by go_num, by omega, by rw [HA.out, HOk.out, HW.out]; simp [HLE.out], hO⟩
                case measure => simp [intOf]; omega
              · have d4 : decide (N < x.natAbs) = true := decide_eq_true (by omega)
                have hres : Rup.followsB N css c = false := by
                  unfold Rup.followsB
                  rw [HA.out, HOk.out, decide_eq_false hle]
                  simp
                have HRes := Lib.hid hres
                clear hle hres
                go_wp2_with fail
                refine (None_any x HX.out false HW.out).mono ?_
                rintro e w' ⟨rfl, rfl⟩
                go_wp2_with fail
                refine (Atom_any x HX.out HW.out).mono ?_
                rintro e w' ⟨rfl, rfl⟩
                go_wp2_with fail
                refine rup_fixed_any.mono ?_
                rintro e w2 ⟨rfl, O2⟩
                go_wp2_with fail
                refine (rup_Follows_any ((hI.only0 hO).only0 O2) ((hc.only0 hO).only0 O2) (by omega) (fun c hc => by have := HG2.out c hc; omega) (by omega) n N HN2.out false HRes.out).mono ?_
                rintro e w3 ⟨rfl, O3⟩
                go_wp2_with fail
                go_ret
                exact ⟨rfl, (hO.same O2).same O3⟩
            · have HW := Lib.hid hw
              have hres : Rup.followsB N css c = false := by
                unfold Rup.followsB
                rw [HA.out, HOk.out, hw]
                simp
              have HRes := Lib.hid hres
              clear hw hres
              go_wp2_with fail
              refine (None_any x HX.out true HW.out).mono ?_
              rintro e w' ⟨rfl, rfl⟩
              go_wp2_with fail
              refine rup_fixed_any.mono ?_
              rintro e w2 ⟨rfl, O2⟩
              go_wp2_with fail
              refine (rup_Follows_any ((hI.only0 hO).only0 O2) ((hc.only0 hO).only0 O2) (by omega) (fun c hc => by have := HG2.out c hc; omega) (by omega) n N HN2.out false HRes.out).mono ?_
              rintro e w3 ⟨rfl, O3⟩
              go_wp2_with fail
              go_ret
              exact ⟨rfl, (hO.same O2).same O3⟩
          · have hk' : k = c.length := by omega
            have hno : c.any (fun x => !Cnf.okAt N x) = false := by rw [hA, hk', List.drop_length]; rfl
            have hlaw := Rup.follows_law (N := N) hI.range hc.range hno
            have HLaw := Lib.hid hlaw
            have hkc := fun d hd => (Rup.kept_cls (N := N) hI.range d hd).2
            have HKC := Lib.hid hkc
            have hkl : (css.filterMap (Rup.formR N)).length ≤ 80 := Nat.le_trans (List.length_filterMap_le _ _) hg1
            clear hA hno hlaw hkc
            go_wp2_with fail
            refine rup_fixed_any.mono ?_
            rintro e w2 ⟨rfl, O2⟩
            go_wp2_with fail
            refine (rup_Follows_any ((hI.only0 hO).only0 O2) ((hc.only0 hO).only0 O2) (by omega) (fun c hc => by have := HG2.out c hc; omega) (by omega) n N HN2.out _ rfl).mono ?_
            rintro e w3 ⟨rfl, O3⟩
            go_wp2_with fail
            refine (Kept_any (((hI.only0 hO).only0 O2).only0 O3) (by omega) (fun c hc => by have := HG2.out c hc; omega) N).mono ?_
            rintro e w4 ⟨vk, us, rfl, hK, O4⟩
            have hcm := mulle (show N + 1 ≤ 31 by omega) hkl
            have hfo := RFollows_any hK.intsS HKC.out ((((hc.only0 hO).only0 O2).only0 O3).only0 O4) N (by omega) (by omega) _ rfl _ rfl
            have HFo := Lib.hid hfo
            have hO4 := ((hO.same O2).same O3).same O4
            have hKI := hK.intsS
            clear hfo hcm
            obtain ⟨ak, ck2, rfl, _, _⟩ := hKI.shape
            go_wp2_with fail
            refine HFo.out.mono ?_
            rintro e w5 ⟨rfl, O5⟩
            rw [HLaw.out]
            generalize refFollows N (css.filterMap (Rup.formR N)) c = r at *
            go_wp2_with fail
            go_ret
            exact ⟨by simp, hO4.same O5⟩
    · have HG := Lib.hid hg
      clear hg
      go_enter Try.func6, Try.ntmps6
      go_wp2_with fail
      refine (great_any hI (StepsAt.nil w) true HG.out).mono ?_
      rintro e w1 ⟨rfl, O1⟩
      go_wp2_with fail
      refine rup_fixed_any.mono ?_
      rintro e w2 ⟨rfl, O2⟩
      go_wp2_with fail
      go_ret
      exact ⟨rfl, O1.same O2⟩
end
end Go.Proofs.Ytjbfgafkjejdjaa

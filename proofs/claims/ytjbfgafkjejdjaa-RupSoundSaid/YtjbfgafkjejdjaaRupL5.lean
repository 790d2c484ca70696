/- The walk of cooperlaw22.RupChecks. -/
import Derived.Test.YtjbfgafkjejdjaaRef21C
namespace Go.Proofs.Ytjbfgafkjejdjaa
open Go.RowKit

theorem StepsAt.range {w : World} {v : Value} {ps : List (Bool × List Int)} (h : StepsAt w v ps) : ∀ p ∈ ps, ∀ x ∈ p.2, InI64 x := by
  intro p hp
  obtain ⟨i, hi, rfl⟩ := List.getElem_of_mem hp
  obtain ⟨ao, cap, rfl, _, _⟩ := h.shape
  obtain ⟨b, off, us, _, _, hc⟩ := h.cells _ _ _ rfl (by omega)
  have := (hc i hi).2.2.range
  simpa [List.getD_eq_getElem?_getD, hi] using this

theorem rup_all_ok : ∀ (css : List (List Int)) (C : Rup.Chk), C.Ok → (∀ c ∈ css, ∀ x ∈ c, InI64 x) → C.cls.length + css.length ≤ 1000000 → (C.all css).Ok
  | [], _, o, _, _ => o
  | c :: r, C, o, hr, hl => by
    simp only [List.length_cons] at hl
    have h1 := o.more (hr c List.mem_cons_self) (by omega)
    have h2 := Rup.more_len C c
    exact rup_all_ok r (C.more c) h1 (fun d hd => hr d (List.mem_cons_of_mem _ hd)) (by omega)

theorem rup_start_ok {N : Nat} {css : List (List Int)} (hr : ∀ c ∈ css, ∀ x ∈ c, InI64 x) (hN : N ≤ 65536) (hl : css.length ≤ 1000000) : (Rup.start N css).Ok :=
  rup_all_ok css _ (Rup.Chk.zero_ok hN) hr (by simpa [Rup.Chk.zero] using hl)

section
variable {w : World}

set_option maxHeartbeats 1600000 in
theorem RupChecks_walk {n : Int} {vcs vps : Value} {css : List (List Int)} {ps : List (Bool × List Int)} (hI : IntsS w vcs css) (hS : StepsAt w vps ps) :
    Calls Try.prog 5 #[.int .i64 n, vcs, vps] w fun e w' => e = .returned (.bool true) ∧ Only (fun _ => False) w w' := by
  obtain ⟨ac, cc, rfl, _, _⟩ := hI.shape
  obtain ⟨as_, cs, rfl, _, _⟩ := hS.shape
  by_cases hn : 30 < n
  · have d2 : decide (30 < n) = true := decide_eq_true hn
    go_enter Try.func5, Try.ntmps5
    go_wp2_with fail
    refine rup_fixed_any.mono ?_
    rintro e w1 ⟨rfl, O1⟩
    go_wp2_with fail
    go_ret
    exact ⟨rfl, O1⟩
  · have d2 : decide (30 < n) = false := decide_eq_false hn
    cases hg : greatB css ps
    · obtain ⟨hg1, hg2, hg3, hg4⟩ := greatB_le hg
      have HG := Lib.hid hg
      obtain ⟨N, hN⟩ : ∃ N : Nat, (N : Int) = max 0 n := ⟨(max 0 n).toNat, by omega⟩
      have hN30 : N ≤ 30 := by omega
      have hN2 : (N : Int) = min (max n 0) 65536 := by omega
      have hmax : max 0 n = (N : Int) := hN.symm
      have HG3 := Lib.hid hg3
      have HG4 := Lib.hid hg4
      have HN2 := Lib.hid hN2
      have hkc := fun d hd => (Rup.kept_cls (N := N) hI.range d hd).2
      have hkl : (css.filterMap (Rup.formR N)).length ≤ 80 := Nat.le_trans (List.length_filterMap_le _ _) hg1
      have hlaw : ((Rup.start N css).Ok) → (Rup.start N css).bad ps 0 = Ref.proof N (css.filterMap (Rup.formR N)) ps 0 := fun hok => by
        rw [Rup.bad_proof ps (Rup.start N css) N 0 (rup_start_rest hok (by omega)) ((Rup.all_n _ _).trans rfl) hS.range, Rup.start_live]
      have HKC := Lib.hid hkc
      have HLaw := Lib.hid hlaw
      clear hg hN hN2 hg3 hg4 hkc hlaw
      go_enter Try.func5, Try.ntmps5
      go_wp2_with fail
      refine (great_any hI hS false HG.out).mono ?_
      rintro e w1 ⟨rfl, O1⟩
      go_wp2_with fail
      refine (Kept_any (hI.only0 O1) (by omega) (fun c hc => by have := HG3.out c hc; omega) N).mono ?_
      rintro e w2 ⟨vk, us, rfl, hK, O2⟩
      have hKI := hK.intsS
      have hpf := Proof_any hKI HKC.out ((hS.only0 O1).only0 O2) N (by omega) (by omega) (fun p hp => by have := HG4.out p hp; omega) _ rfl
      have HPf := Lib.hid hpf
      clear hpf
      obtain ⟨ak, ck2, rfl, _, _⟩ := hKI.shape
      go_wp2_with fail
      refine HPf.out.mono ?_
      rintro e w3 ⟨v3, rfl, O3⟩
      have hO3 := (O1.same O2).same O3
      go_wp2_with fail
      refine rup_fixed_any.mono ?_
      rintro e w4 ⟨rfl, O4⟩
      have hO4 := hO3.same O4
      go_wp2_with fail
      refine (rup_Check_any (hI.only0 hO4) (hS.only0 hO4) (by omega) (fun c hc => by have := HG3.out c hc; omega) (by omega) (fun p hp => by have := HG4.out p hp; omega) n N HN2.out).mono ?_
      rintro e w5 ⟨rfl, O5⟩
      rw [HLaw.out (rup_start_ok hI.range (by omega) (by omega))]
      generalize Ref.proof N (css.filterMap (Rup.formR N)) ps 0 = r at *
      go_wp2_with fail
      go_ret
      exact ⟨by simp, hO4.same O5⟩
    · have HG := Lib.hid hg
      clear hg
      go_enter Try.func5, Try.ntmps5
      go_wp2_with fail
      refine (great_any hI hS true HG.out).mono ?_
      rintro e w1 ⟨rfl, O1⟩
      go_wp2_with fail
      refine rup_fixed_any.mono ?_
      rintro e w2 ⟨rfl, O2⟩
      go_wp2_with fail
      go_ret
      exact ⟨rfl, O1.same O2⟩
end
end Go.Proofs.Ytjbfgafkjejdjaa

/- The walk of cooperlaw22.RupMore. -/
import Derived.Test.YtjbfgafkjejdjaaRupL3
import Derived.Test.YtjbfgafkjejdjaaRupLaw2
namespace Go.Proofs.Ytjbfgafkjejdjaa
open Go.RowKit

theorem IntsS.of_own {w : World} {v : Value} {us : List Value} {css : List (List Int)} {n : Nat} (h : w.ownsRow 0 22 1 v n us) (hA : AllInts w us css) : IntsS w v css := by
  have hn : us.length = n := by simpa using h.1
  subst hn
  exact ⟨us, Cells.of_own h, hA⟩

theorem getD_reverse {α : Type} (l : List α) (d : α) {i : Nat} (h : i < l.length) : l.reverse.getD i d = l.getD (l.length - 1 - i) d := by
  simp [List.getD_eq_getElem?_getD, h, show l.length - 1 - i < l.length by omega]

theorem AllInts.reverse {w : World} {us : List Value} {css : List (List Int)} (h : AllInts w us css) : AllInts w us.reverse css.reverse := by
  refine ⟨by simp [h.1], fun i hi => ?_⟩
  simp only [List.length_reverse] at hi
  have hl := h.1
  rw [getD_reverse _ _ (by omega), getD_reverse _ _ hi, hl]
  exact h.2 _ (by omega)

/-- the clauses turned, when k of them are there -/
def turned (us : List Value) (k : Nat) : List Value := List.replicate (us.length - k) nilS ++ (us.take k).reverse

theorem turned_len (us : List Value) {k : Nat} (h : k ≤ us.length) : (turned us k).length = us.length := by simp [turned]; omega
theorem turned_succ (us : List Value) {k : Nat} (h : k < us.length) : turned us (k + 1) = (turned us k).set (us.length - 1 - k) (us.getD k nilS) := by
  unfold turned
  have e : us.take (k + 1) = us.take k ++ [us.getD k nilS] := by
    rw [List.take_succ_eq_append_getElem h]; simp [List.getD_eq_getElem?_getD, h]
  rw [e, List.reverse_append, List.reverse_singleton, List.singleton_append]
  have e2 : List.replicate (us.length - k) nilS = List.replicate (us.length - (k + 1)) nilS ++ [nilS] := by
    rw [show us.length - k = (us.length - (k + 1)) + 1 by omega, List.replicate_succ']
  rw [e2, List.append_assoc, List.set_append_right _ _ (by simp; omega)]
  congr 1
  have e3 : us.length - 1 - k - (List.replicate (us.length - (k + 1)) nilS).length = 0 := by simp; omega
  rw [e3]
  rfl
theorem turned_all (us : List Value) : turned us us.length = us.reverse := by simp [turned]

section
variable {w : World}

set_option maxHeartbeats 3200000 in
theorem RupMore_walk {z : Int} (hz : 0 ≤ z ∧ z ≤ 255) {vcs vm vc : Value} {css : List (List Int)} {m c : List Int} (hI : IntsS w vcs css) (hm : Ints w vm m) (hc : Ints w vc c) :
    Calls Try.prog 7 #[.int .u8 z, vcs, vm, vc] w fun e w' => e = .returned (.bool true) ∧ Only (fun _ => False) w w' := by
  obtain ⟨z1, z2⟩ := hz
  obtain ⟨us, hC, hA⟩ := hI
  have hI : IntsS w vcs css := ⟨us, hC, hA⟩
  obtain ⟨ac, cc, rfl, _, _⟩ := hI.shape
  obtain ⟨am, cm, rfl, _, _⟩ := hm.shape
  obtain ⟨al, cl, rfl, hl1, hl2⟩ := hc.shape
  cases hg : greatB css []
  · obtain ⟨hg1, -, hg2, -⟩ := greatB_le hg
    have HG := Lib.hid hg
    have HG2 := Lib.hid hg2
    clear hg hg2
    by_cases h1 : 60 < css.length
    · have d1 : decide ((60 : Int) < (css.length : Int)) = true := decide_eq_true (by omega)
      go_enter Try.func7, Try.ntmps7
      go_wp2_with fail
      refine (great_any hI (StepsAt.nil w) false HG.out).mono ?_
      rintro e w1 ⟨rfl, O1⟩
      go_wp2_with fail
      refine rup_fixed_any.mono ?_
      rintro e w2 ⟨rfl, O2⟩
      go_wp2_with fail
      go_ret
      exact ⟨rfl, O1.same O2⟩
    · have d1 : decide ((60 : Int) < (css.length : Int)) = false := decide_eq_false (by omega)
      by_cases h2 : 12 < m.length
      · have d2 : decide ((12 : Int) < (m.length : Int)) = true := decide_eq_true (by omega)
        go_enter Try.func7, Try.ntmps7
        go_wp2_with fail
        refine (great_any hI (StepsAt.nil w) false HG.out).mono ?_
        rintro e w1 ⟨rfl, O1⟩
        go_wp2_with fail
        refine rup_fixed_any.mono ?_
        rintro e w2 ⟨rfl, O2⟩
        go_wp2_with fail
        go_ret
        exact ⟨rfl, O1.same O2⟩
      · have d2 : decide ((12 : Int) < (m.length : Int)) = false := decide_eq_false (by omega)
        by_cases h3 : 12 < c.length
        · have d3 : decide ((12 : Int) < (c.length : Int)) = true := decide_eq_true (by omega)
          go_enter Try.func7, Try.ntmps7
          go_wp2_with fail
          refine (great_any hI (StepsAt.nil w) false HG.out).mono ?_
          rintro e w1 ⟨rfl, O1⟩
          go_wp2_with fail
          refine rup_fixed_any.mono ?_
          rintro e w2 ⟨rfl, O2⟩
          go_wp2_with fail
          go_ret
          exact ⟨rfl, O1.same O2⟩
        · have d3 : decide ((12 : Int) < (c.length : Int)) = false := decide_eq_false (by omega)
          have hul := hA.1
          go_enter Try.func7, Try.ntmps7
          go_wp2_with fail
          refine (great_any hI (StepsAt.nil w) false HG.out).mono ?_
          rintro e w1 ⟨rfl, O1⟩
          have hC1 := hC.only0 O1
          have hA1 := hA.only0 O1
          go_wp2_with (at_builtin; go_must (refine wpAS slInts rfl (.tmp 36) (.tmp 37) rfl (v := .slice (some ⟨w1.heap.size, 0, none⟩) 0 0) (n := 0) (xs := []) rfl (OwnS.lit0 w1 w1 (Nat.le_refl _)).row rfl (news := us) (by omega) ?n1 (by exact (hC1.only0 ((Only.refl _ w1).alloc _)).news) hA1.one (by omega) (by decide) ?n2))
          case n1 => intro e; exact hC.nil _ _ (by rw [e])
          case n2 =>
            intro v2 w2 r1 r2 r3
            have hv2 : ∀ k, v2.ownBlock = some k → w1.heap.size ≤ k := by
              intro k hk
              rcases r3 k hk with h | h
              · simp [Value.ownBlock] at h; omega
              · simp at h; omega
            have O2 : Only (fun _ => False) w1 w2 := ((Only.refl _ w1).alloc _).trans r2 (by intro i hi; simp [Value.ownBlock] at hi; exact .inr (by omega))
            have r1' : w2.ownsRow 0 22 1 v2 us.length us := by simpa [hul] using r1
            have HV2 := Lib.hid hv2
            clear r1 r2 r3 hv2
            go_wp2_with (at_builtin; go_must (refine wpA1 (u := .slice am m.length cm) slInts rfl (.tmp 38) (.tmp 40) rfl rfl rfl (cell_newE _ _ _ _ rfl) rfl (own_only r1' ((Only.refl (fun _ => False) _).alloc _) (fun _ _ f => f)) (by omega) (by decide) ?n3))
            intro v3 w3 s1 s2 s3
            have O3 : Only (fun _ => False) w1 w3 := (O2.alloc _).trans s2 (fun k hk => .inr (HV2.out k hk))
            have O3' : Only (fun _ => False) w w3 := O1.same O3
            have hall3 : IntsS w3 v3 (css ++ [m]) := IntsS.of_own s1 ((hA.only0 O3').snoc (hm.only0 O3'))
            clear s1 s2 s3 r1' HV2 O2
            obtain ⟨aa, ca, rfl, _, _⟩ := hall3.shape
            go_wp2_with (at_make; go_must (refine wpM (bytes := 24) (z := nilS) Try.underlying35 (by kernel_rfl) rfl rfl _ _ rfl css.length rfl rfl rfl rfl (by omega) (by decide) ?_))
            intro w4 t1 t2 t3
            have hst : w4.ownsRow 0 22 1 (.slice (some ⟨w3.heap.size, 0, none⟩) css.length css.length) css.length (turned us 0) := by
              have : turned us 0 = List.replicate css.length nilS := by simp [turned, hul]
              rw [this]; exact t1
            have HST := Lib.hid hst
            clear t1 hst t3
            go_wp2_with fail
            go_loopw [47] (fun v wr => ∃ k : Nat, v = .int .i64 k ∧ k ≤ css.length ∧ wr.ownsRow 0 22 1 (.slice (some ⟨w3.heap.size, 0, none⟩) css.length css.length) css.length (turned us k) ∧ Only (fun _ => False) w3 wr) (fun v _ => css.length - (intOf v).toNat)
            case atStart => exact ⟨0, rfl, Nat.zero_le _, HST.out, t2⟩
            case round =>
              clear HST t2
              obtain ⟨k, rfl, hk, hB, hO⟩ := hrel
              have hOw := O3'.same hO
              by_cases ck : k < css.length
              · obtain ⟨bc, oc, rfl, _, hcs⟩ := (hC.only0 hOw).cells _ _ _ rfl (by omega)
                have q := hcs k (by omega)
                have htl := turned_len us (k := k) (by omega)
                obtain ⟨uo, hcel⟩ : ∃ uo, wr.cell? ⟨w3.heap.size, css.length - 1 - k, none⟩ = some uo := by
                  refine ⟨(turned us k)[css.length - 1 - k]'(by omega), ?_⟩
                  rw [hB.cellAt (css.length - 1 - k) (by simp only [Nat.mul_one]; omega)]
                  exact List.getElem?_eq_getElem (by omega)
                have hfr := hB.frozenAt (css.length - 1 - k)
                have hsto := (hB.stored (css.length - 1 - k) (us.getD k nilS)).1
                have hts := turned_succ us (k := k) (by omega)
                rw [hul] at hts
                have hsto' : (wr.setCell ⟨w3.heap.size, css.length - 1 - k, none⟩ (us.getD k nilS)).ownsRow 0 22 1 (.slice (some ⟨w3.heap.size, 0, none⟩) css.length css.length) css.length (turned us (k + 1)) := by
                  rw [hts]; simpa using hsto
                obtain ⟨au, cu, hue, _, _⟩ := (hA.2 k ck).shape
                rw [hue] at q hsto'
                have HST := Lib.hid hsto'
                have hO' : Only (fun _ => False) w3 (wr.setCell ⟨w3.heap.size, css.length - 1 - k, none⟩ (.slice au (css.getD k []).length cu)) := hO.setCell (.inr (Nat.le_refl _)) _
                have HO' := Lib.hid hO'
                clear hsto hsto' hts hcs hue hO' hB
                generalize (css.getD k []).length = lk at *
                clear htl
                go_wp2_with fail
                go_roundw
                case rel => exact ⟨k + 1, by go_num, by omega, HST.out, HO'.out⟩
                case measure => simp [intOf]; omega
              · have hk' : k = css.length := by omega
                have hbk : IntsS wr (.slice (some ⟨w3.heap.size, 0, none⟩) css.length css.length) css.reverse := by
                  refine IntsS.of_own (us := us.reverse) (n := css.length) ?_ (hA.only0 hOw).reverse
                  have e : us.reverse = turned us k := by rw [← turned_all us, hul, hk']
                  rw [e]; exact hB
                have hallr := hall3.only0 hO
                obtain ⟨N, hN⟩ : ∃ N : Nat, (N : Int) = z % 31 := ⟨(z % 31).toNat, by omega⟩
                have hN2 : (N : Int) = min (max (z % 31) 0) 65536 := by omega
                have HN2 := Lib.hid hN2
                have hmono : Rup.followsB N css c = true → Rup.followsB N (css ++ [m]) c = true := Rup.followsB_mono hI.range hall3.range hc.range (fun d hd => List.mem_append_left _ hd)
                have hsame : Rup.followsB N css.reverse c = Rup.followsB N css c := Rup.followsB_same hI.range (by intro d hd; exact hI.range d (List.mem_reverse.1 hd)) hc.range (fun d hd => List.mem_reverse.2 hd) (fun d hd => List.mem_reverse.1 hd)
                have HMono := Lib.hid hmono
                have HSame := Lib.hid hsame
                have hlim : ∀ d ∈ css ++ [m], d.length ≤ 1099511627776 := by
                  intro d hd
                  rcases List.mem_append.1 hd with h | h
                  · have := HG2.out d h; omega
                  · simp at h; subst h; omega
                have HLim := Lib.hid hlim
                clear hB hN2 hN hmono hsame hlim
                go_wp2_with fail
                cases hx : Rup.followsB N css c
                · have HX := Lib.hid hx
                  clear hx
                  refine (rup_Follows_any (hI.only0 hOw) (hc.only0 hOw) (by omega) (fun d hd => by have := HG2.out d hd; omega) (by omega) _ N HN2.out false HX.out).mono ?_
                  rintro e w5 ⟨rfl, O5⟩
                  go_wp2_with fail
                  refine rup_fixed_any.mono ?_
                  rintro e w6 ⟨rfl, O6⟩
                  go_wp2_with fail
                  refine (rup_Follows_any ((hbk.only0 O5).only0 O6) (((hc.only0 hOw).only0 O5).only0 O6) (by simp; omega) (fun d hd => by have := HG2.out d (List.mem_reverse.1 hd); omega) (by omega) _ N HN2.out false (HSame.out.trans HX.out)).mono ?_
                  rintro e w7 ⟨rfl, O7⟩
                  go_wp2_with fail
                  go_ret
                  exact ⟨rfl, ((hOw.same O5).same O6).same O7⟩
                · have HX := Lib.hid hx
                  clear hx
                  refine (rup_Follows_any (hI.only0 hOw) (hc.only0 hOw) (by omega) (fun d hd => by have := HG2.out d hd; omega) (by omega) _ N HN2.out true HX.out).mono ?_
                  rintro e w5 ⟨rfl, O5⟩
                  go_wp2_with fail
                  refine rup_fixed_any.mono ?_
                  rintro e w6 ⟨rfl, O6⟩
                  have hall6 := (hallr.only0 O5).only0 O6
                  have hal := rup_Follows_any hall6 (((hc.only0 hOw).only0 O5).only0 O6) (by simp; omega) HLim.out (by omega) _ N HN2.out true (HMono.out HX.out)
                  simp only [List.length_append, List.length_cons, List.length_nil, Nat.zero_add] at hal
                  have HAl := Lib.hid hal
                  clear hal
                  go_wp2_with fail
                  refine HAl.out.mono ?_
                  rintro e w7 ⟨rfl, O7⟩
                  go_wp2_with fail
                  refine (rup_Follows_any (((hbk.only0 O5).only0 O6).only0 O7) ((((hc.only0 hOw).only0 O5).only0 O6).only0 O7) (by simp; omega) (fun d hd => by have := HG2.out d (List.mem_reverse.1 hd); omega) (by omega) _ N HN2.out true (HSame.out.trans HX.out)).mono ?_
                  rintro e w8 ⟨rfl, O8⟩
                  go_wp2_with fail
                  go_ret
                  exact ⟨rfl, (((hOw.same O5).same O6).same O7).same O8⟩
  · have HG := Lib.hid hg
    clear hg
    go_enter Try.func7, Try.ntmps7
    go_wp2_with fail
    refine (great_any hI (StepsAt.nil w) true HG.out).mono ?_
    rintro e w1 ⟨rfl, O1⟩
    go_wp2_with fail
    refine rup_fixed_any.mono ?_
    rintro e w2 ⟨rfl, O2⟩
    go_wp2_with fail
    go_ret
    exact ⟨rfl, O1.same O2⟩
end
end Go.Proofs.Ytjbfgafkjejdjaa

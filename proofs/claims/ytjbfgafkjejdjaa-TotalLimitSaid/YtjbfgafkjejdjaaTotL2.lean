/- Law 23: TotalLimit. -/
import Derived.Test.YtjbfgafkjejdjaaTot7
import Derived.Test.YtjbfgafkjejdjaaRef12F
namespace Go.Proofs.Ytjbfgafkjejdjaa
open Go.RowKit

section
variable {w : World}

theorem Atom_zero : Calls Try.prog 14 #[.int .i64 0] w fun e w' => e = .returned (.int .i64 0) ∧ w = w' := by
  go_enter Try.func14, Try.ntmps14
  go_wp2
  go_ret
  exact ⟨rfl, rfl⟩

/-- a literal that TotalLimit lets pass -/
def Lim (x : Int) : Prop := x = 0 ∨ (Cnf.wr x = false ∧ x.natAbs ≤ 1000)

set_option maxRecDepth 100000 in
set_option maxHeartbeats 3200000 in
theorem TotalLimit_walk {v : Value} {row : List Int} {cap lim : Int} (hI : Ints w v row) (hc : -9223372036854775808 ≤ cap ∧ cap ≤ 9223372036854775807) (hl : 0 ≤ lim ∧ lim ≤ 255) :
    Calls Try.prog 3 #[v, .int .i64 cap, .int .u8 lim] w fun e w' => e = .returned (.bool true) ∧ Only (fun _ => False) w w' := by
  obtain ⟨ao, ca, rfl, hl1, hl2⟩ := hI.shape
  by_cases c1 : row.length ≤ 20
  · go_enter Try.func3, Try.ntmps3
    go_wp2_with fail
    go_loopw [7, 20] (fun vz vi wr => ∃ k : Nat, vi = .int .i64 k ∧ vz = .bool ((row.take k).contains 0) ∧ k ≤ row.length ∧ (∀ x ∈ row.take k, Lim x) ∧ w = wr) (fun _ v _ => row.length - (intOf v).toNat)
    case atStart => exact ⟨0, rfl, by simp, Nat.zero_le _, by simp, rfl⟩
    case round =>
      obtain ⟨k, rfl, rfl, hk, hP, rfl⟩ := hrel
      by_cases ck : k < row.length
      · obtain ⟨rb, ro, rfl, _, hcs⟩ := hI.cells _ _ _ rfl (by omega)
        have q1 := hcs k ck
        have hx := hI.range' k
        have hsn := take_snocI row k ck
        have hct : (row.take (k + 1)).contains 0 = ((row.take k).contains 0 || (row.getD k 0 == 0)) := by
          rw [hsn, List.contains_eq_any_beq, List.contains_eq_any_beq, List.any_append]
          simp only [List.any_cons, List.any_nil, Bool.or_false]
          congr 1
          apply Bool.eq_iff_iff.2
          simp only [beq_iff_eq]
          exact eq_comm
        have hPn : Lim (row.getD k 0) → ∀ x ∈ row.take (k + 1), Lim x := by
          intro h x hx
          rw [hsn] at hx
          rcases List.mem_append.1 hx with hx | hx
          · exact hP x hx
          · simp at hx; subst hx; exact h
        have HCt := Lib.hid hct
        have HPn := Lib.hid hPn
        generalize row.getD k 0 = x at *
        clear hcs hsn hct hPn hP
        generalize (row.take k).contains 0 = z at *
        by_cases hx0 : x = 0
        · subst hx0
          have hN := None_any (w := w) 0 (by simp [InI64]) true (by decide)
          have hA := Atom_zero (w := w)
          have HN := Lib.hid hN
          have HA := Lib.hid hA
          have e0 : (row.take (k + 1)).contains 0 = true := by rw [HCt.out]; simp
          have HE := Lib.hid e0
          have hp2 := HPn.out (.inl rfl)
          have HP2 := Lib.hid hp2
          clear hN hA e0 hp2 HPn HCt
          cases z
          all_goals
            go_wp2_with fail
            refine HN.out.mono ?_
            rintro e w2 ⟨rfl, rfl⟩
            go_wp2_with fail
            refine HA.out.mono ?_
            rintro e w2 ⟨rfl, rfl⟩
            go_wp2_with fail
            go_roundw
            case rel => exact ⟨k + 1, by go_num, by rw [HE.out], by omega, HP2.out, by first | rfl | trivial⟩
            case measure => simp [intOf]; omega
        · have hd0 : (x == 0) = false := by simpa using hx0
          have hE : (row.take (k + 1)).contains 0 = z := by rw [HCt.out, hd0]; simp
          have HE := Lib.hid hE
          clear hE HCt
          cases hw : Cnf.wr x
          · have hN := None_any (w := w) x hx false hw
            have hA := Atom_any (w := w) x hx hw
            have HN := Lib.hid hN
            have HA := Lib.hid hA
            have HW := Lib.hid hw
            have hd1 : (x != 0) = true := by simpa using hx0
            clear hN hA hw
            by_cases hb : x.natAbs ≤ 1000
            · have hp2 := HPn.out (.inr ⟨HW.out, hb⟩)
              have HP2 := Lib.hid hp2
              have d2 : decide (1000 < x.natAbs) = false := decide_eq_false (by omega)
              have d3 : decide ((1000 : Int) < (x.natAbs : Int)) = false := decide_eq_false (by omega)
              clear hp2 HPn hb
              generalize x.natAbs = m at *
              cases z
              all_goals
                go_wp2_with fail
                refine HN.out.mono ?_
                rintro e w2 ⟨rfl, rfl⟩
                go_wp2_with fail
                refine HA.out.mono ?_
                rintro e w2 ⟨rfl, rfl⟩
                go_wp2_with fail
                go_roundw
                case rel => exact ⟨k + 1, by go_num, by rw [HE.out], by omega, HP2.out, by first | rfl | trivial⟩
                case measure => simp [intOf]; omega
            · have d2 : decide (1000 < x.natAbs) = true := decide_eq_true (by omega)
              have d3 : decide ((1000 : Int) < (x.natAbs : Int)) = true := decide_eq_true (by omega)
              clear HPn hb
              generalize x.natAbs = m at *
              cases z
              all_goals
                go_wp2_with fail
                refine HN.out.mono ?_
                rintro e w2 ⟨rfl, rfl⟩
                go_wp2_with fail
                refine HA.out.mono ?_
                rintro e w2 ⟨rfl, rfl⟩
                go_wp2_with fail
                refine law23_fixed.mono ?_
                rintro e w1 ⟨rfl, O1⟩
                go_wp2_with fail
                go_ret
                exact ⟨rfl, O1⟩
          · have hN := None_any (w := w) x hx true hw
            have HN := Lib.hid hN
            have hd1 : (x != 0) = true := by simpa using hx0
            clear hN hw HPn
            cases z
            all_goals
              go_wp2_with fail
              refine HN.out.mono ?_
              rintro e w2 ⟨rfl, rfl⟩
              go_wp2_with fail
              refine law23_fixed.mono ?_
              rintro e w1 ⟨rfl, O1⟩
              go_wp2_with fail
              go_ret
              exact ⟨rfl, O1⟩
      · have hk' : row.take k = row := List.take_of_length_le (by omega)
        rw [hk'] at hP ⊢
        have hz2 : ∀ x ∈ row, x.natAbs ≤ 1000000 := by
          intro x hx
          rcases hP x hx with h | ⟨_, h⟩
          · subst h; decide
          · omega
        obtain ⟨L, hL⟩ : ∃ L : Nat, lim = L := ⟨lim.toNat, by omega⟩
        subst hL
        have hLb : L ≤ 255 := by omega
        have hlb : ∀ k : Nat, 0 < row.length → Value.blk (Value.slice ao row.length ca) = some k → k < w.heap.size := fun k hp hk => hI.lt hp hk
        have hN1 := atomsNew_any w 5000 (by simp [InI64]) 5000 (by decide)
        have HN1 := Lib.hid hN1
        have HLb := Lib.hid hlb
        have HI := Lib.hid hI
        have HZ2 := Lib.hid hz2
        have ew : IntKind.i64.wrap (L : Int) = L := IntWalk.i64_in _ (by omega)
        clear hN1 hk' hP hk hlb hI hz2
        obtain ⟨z, hz⟩ : ∃ z, row.contains 0 = z := ⟨_, rfl⟩
        have HZ := Lib.hid hz
        rw [hz]
        clear hz
        go_wp2_with fail
        refine HN1.out.mono ?_
        rintro e w1 ⟨bt1, gt1, Vt1, rfl, hT1, hm1, O1⟩
        have hN2 := atomsNew_any w1 (L : Int) (by unfold InI64; omega) L (by omega)
        have HN2 := Lib.hid hN2
        clear hN2 HN1
        go_wp2_with fail
        refine HN2.out.mono ?_
        rintro e w2 ⟨bt2, gt2, Vt2, rfl, hT2, hm2, O2⟩
        have hT1' := hT1.only0 O2
        have hN3 := cnfNew_any w2
        have HN3 := Lib.hid hN3
        clear hN3 HN2
        go_wp2_with fail
        refine HN3.out.mono ?_
        rintro e w3 ⟨bb1, gb1, Vb1, rfl, hB1, hmb1, O3⟩
        have hI3 := ((HI.out.only0 O1).only0 O2).only0 O3
        have hT13 := hT1'.only0 O3
        have hT23 := hT2.only0 O3
        have hO3 : Only (fun _ => False) w w3 := (O1.same O2).same O3
        by_cases hcase : z = true ∨ cap < 1
        · have hC1 := fun W (h : Ints W (.slice ao row.length ca) row) (p q : Nat) => Count_zero (w := W) (p := .pointer (some ⟨p, 0, none⟩)) (q := .pointer (some ⟨q, 0, none⟩)) h (.inr ⟨_, rfl⟩) (.inr ⟨_, rfl⟩) cap (hcase.elim (fun h => .inr (.inr (.inr (by rw [HZ.out]; exact h)))) (fun h => .inr (.inr (.inl h))))
          have hC2 := hC1 w3 hI3 bt1 bb1
          have HC1 := Lib.hid hC1
          have HC2 := Lib.hid hC2
          have hN4 := cnfNew_any w3
          have HN4 := Lib.hid hN4
          have HI3 := Lib.hid hI3
          clear hC1 hC2 hN4 hT1 hT1' hT2 hT13 hT23 hB1 hm1 hm2 hmb1 hI3 HN3
          go_wp2_with fail
          refine HC2.out.mono ?_
          rintro e w4 ⟨rfl, rfl⟩
          go_wp2_with fail
          refine HN4.out.mono ?_
          rintro e w4 ⟨bb2, gb2, Vb2, rfl, hB2, hmb2, O4⟩
          have hC3 := HC1.out w4 (HI3.out.only0 O4) bt2 bb2
          have HC3 := Lib.hid hC3
          have hO4 := hO3.same O4
          clear hC3 HN4 hB2 hmb2 HC1 HC2
          go_wp2_with fail
          refine HC3.out.mono ?_
          rintro e w5 ⟨rfl, rfl⟩
          have hzc : (z || decide (cap < 1)) = true := by
            rcases hcase with h | h
            · rw [h]; rfl
            · rw [decide_eq_true h]; simp
          clear hcase
          cases z
          · have d1 : decide (cap < 1) = true := by simpa using hzc
            clear hzc
            go_wp2_with fail
            refine law23_fixed.mono ?_
            rintro e w6 ⟨rfl, O6⟩
            have hO6 := hO4.same O6
            clear O6
            go_wp2_with fail
            go_ret
            exact ⟨rfl, hO6⟩
          · clear hzc
            go_wp2_with fail
            refine law23_fixed.mono ?_
            rintro e w6 ⟨rfl, O6⟩
            have hO6 := hO4.same O6
            clear O6
            go_wp2_with fail
            go_ret
            exact ⟨rfl, hO6⟩
        · have hz0 : z = false := by
            cases z
            · rfl
            · exact absurd (.inl rfl) hcase
          have hc1 : 1 ≤ cap := by
            by_cases h : cap < 1
            · exact absurd (.inr h) hcase
            · omega
          subst hz0
          clear hcase
          have f1 : ∀ k, w1.heap.size ≤ k → ¬ Mine gt1 k := fun k hk h => h (hT1.fresh k hk)
          have f2 : ∀ k, w2.heap.size ≤ k → ¬ Mine gt2 k := fun k hk h => h (hT2.fresh k hk)
          have s1 := O1.size
          have s2 := O2.size
          have s3 := O3.size
          have hfit := Tot.count_fit hc1 row.length row 0 rfl
          have hfull := fun (h : L < (Tot.nd cap row.length).2) B => Tot.count_full hc1 (lim := L) row.length row 0 false B rfl (Nat.zero_le _) (by omega)
          have hnb := Tot.nd_bound cap hc1 row.length
          obtain ⟨out, hol, hout⟩ := hfit
          have hnd : (Tot.nd cap row.length).2 ≤ 400 := Nat.le_trans hnb.2.2 (Nat.mul_le_mul c1 c1)
          have q1 := hout 5000 false ⟨[], false, false⟩ (by omega)
          have hq2 := fun h => hout L false ⟨[], false, false⟩ h
          have hcm := Tot.count_mono (cap := cap) (lim := L) row.length row 0 false ⟨[], false, false⟩ rfl (Nat.zero_le _)
          have hK1 := Count_tab (hp := 0) (n0 := 0) (lim := 5000) (fl := false) hT13 (Nat.le_refl _) hB1 (fun k h1 h2 => f1 k (by have := hmb1 k h2; omega) h1) hI3 (by omega) (fun hp k hk => by
              by_cases h : (gt1 k).1 = 0
              · exact h
              · have := hm1 k h; have := HLb.out k hp hk; omega) (fun hp k hk => by
              by_cases h : (gb1 k).1 = 0
              · exact h
              · have := hmb1 k h; have := HLb.out k hp hk; omega) HZ2.out cap hc1 hc.2 HZ.out
          rw [q1.1, q1.2.1, q1.2.2] at hK1
          have HK1 := Lib.hid hK1
          have HF1 := Lib.hid f1
          have HF2 := Lib.hid f2
          have HM1 := Lib.hid hm1
          have HM2 := Lib.hid hm2
          have HMB1 := Lib.hid hmb1
          have HHf := Lib.hid hfull
          have HQ2 := Lib.hid hq2
          have HT23 := Lib.hid hT23
          have HI3 := Lib.hid hI3
          simp only [Nat.zero_add] at HK1
          generalize hndd : (Tot.nd cap row.length).2 = nn at *
          have HCm := Lib.hid hcm
          clear hK1 f1 f2 hm1 hm2 hmb1 hfull hq2 q1 hout hnb hT1 hT1' hT2 hT13 hT23 hB1 hI3 HN3 hcm hol hndd
          go_wp2_with fail
          refine HK1.out.mono ?_
          rintro e w4 ⟨v1, rfl, gt4, Vt4, hp4, hT4, _, A4, O4, hI4, hW4⟩
          have hT24 := HT23.out.only O4 (fun k hk h => by
            rcases h with h | h
            · exact HF1.out k (HM2.out k hk) h
            · exact HF2.out k (HMB1.out k h) hk)
          have hIr4 := HI3.out.only' O4 (fun hp k hk h => by
            have h0 := HLb.out k hp hk
            rcases h with h | h
            · have := HM1.out k h; omega
            · have := HMB1.out k h; omega)
          have hO4 : Only (fun _ => False) w w4 := hO3.trans O4 (fun k h => by
            rcases h with h | h
            · exact .inr (HM1.out k h)
            · exact .inr (by have := HMB1.out k h; omega))
          have s4 := O4.size
          have hN4 := cnfNew_any w4
          have HN4 := Lib.hid hN4
          have f4 := hT4.fresh
          have HF4 := Lib.hid f4
          have HT4 := Lib.hid hT4
          have HT24 := Lib.hid hT24
          have HIr4 := Lib.hid hIr4
          obtain ⟨a1, cp1, rfl, _, _⟩ := hI4.shape
          have HI4 := Lib.hid hI4
          have HW4 := Lib.hid hW4
          clear hN4 hT4 hT24 hIr4 hI4 hW4 f4 HK1 HT23 HI3 O4
          go_wp2_with fail
          refine HN4.out.mono ?_
          rintro e w5 ⟨bb2, gb2, Vb2, rfl, hB2, hmb2, O5⟩
          have s5 := O5.size
          have hK2 := Count_tab (hp := 0) (n0 := 0) (lim := L) (fl := false) (HT24.out.only0 O5) (Nat.le_refl _) hB2 (fun k h1 h2 => HF2.out k (by have := hmb2 k h2; omega) h1) (HIr4.out.only0 O5) (by omega) (fun hp k hk => by
              by_cases h : (gt2 k).1 = 0
              · exact h
              · have := HM2.out k h; have := HLb.out k hp hk; omega) (fun hp k hk => by
              by_cases h : (gb2 k).1 = 0
              · exact h
              · have := hmb2 k h; have := HLb.out k hp hk; omega) HZ2.out cap hc1 hc.2 HZ.out
          have HK2 := Lib.hid hK2
          have HMB2 := Lib.hid hmb2
          have hO5 := hO4.same O5
          have hI5 := HI4.out.only0 O5
          have HI5 := Lib.hid hI5
          have hT5 := HT4.out.only0 O5
          have HT5 := Lib.hid hT5
          have hlt4 : ∀ k, 0 < out.length → Value.blk (Value.slice a1 out.length cp1) = some k → k < w4.heap.size := fun k hp hk => HI4.out.lt hp hk
          have HLt4 := Lib.hid hlt4
          clear hK2 hmb2 hB2 hI5 hT5 HN4 HT4 HT24 hlt4 HI4
          generalize hcc : Tot.count cap L row 0 false ⟨[], false, false⟩ = cc at *
          have HCc := Lib.hid hcc
          clear hcc
          go_wp2_with fail
          refine HK2.out.mono ?_
          rintro e w6 ⟨v2, rfl, gt6, Vt6, hp6, hT6, _, A6, O6, hI6, hW6⟩
          have hI56 := HI5.out.only' O6 (fun hp k hk h => by
            have h0 := HLt4.out k hp hk
            have h1 := HW4.out hp k hk
            rcases h with h | h
            · exact HF2.out k (by omega) h
            · have := HMB2.out k h; omega)
          have hdis : ∀ k, Mine gt4 k → ¬ (Mine gt2 k ∨ Mine gb2 k) := by
            intro k hk h
            have hlt : k < w4.heap.size := by
              rcases Nat.lt_or_ge k w4.heap.size with h | h
              · exact h
              · exact absurd (HF4.out k h) hk
            rcases h with h | h
            · have h2 := HM2.out k h
              have h3 : k < w3.heap.size := by
                rcases Nat.lt_or_ge k w3.heap.size with h' | h'
                · exact h'
                · exact absurd h (HF2.out k (by omega))
              have h4 := A4 k h3
              unfold Mine at hk
              rw [h4] at hk
              exact HF1.out k h2 hk
            · have := HMB2.out k h; omega
          have hT46 := HT5.out.only O6 hdis
          have hO6 : Only (fun _ => False) w w6 := hO5.trans O6 (fun k h => by
            rcases h with h | h
            · exact .inr (by have := HM2.out k h; omega)
            · exact .inr (by have := HMB2.out k h; omega))
          have hLen := tabLen_any hT46
          have hll : (Tot.hT nn 5000 hp4 false).l.length = nn := by simp [Tot.hT]
          rw [hll] at hLen
          have HLen := Lib.hid hLen
          have HT6 := Lib.hid hT6
          have HI6 := Lib.hid hI6
          have HI56 := Lib.hid hI56
          obtain ⟨a2, cp2, rfl, _, _⟩ := hI6.shape
          have hIr6 := (HIr4.out.only0 O5).only' O6 (fun hp k hk h => by
            have h0 := HLb.out k hp hk
            rcases h with h | h
            · have := HM2.out k h; omega
            · have := HMB2.out k h; omega)
          have HIr6 := Lib.hid hIr6
          have dc : decide (cap < 1) = false := decide_eq_false (by omega)
          clear hLen hT6 hI6 hI56 hT46 hdis hll HK2 HT5 HI5 hW6 hIr6 O6 O5 HIr4
          by_cases hbig : L < nn
          · obtain ⟨e1, e2⟩ := HHf.out hbig ⟨[], false, false⟩
            rw [HCc.out] at e1 e2
            have hFull := tabFull_any HT6.out
            have hff : (Tot.hT cc.2.1 L hp6 cc.2.2.1).full = true := e2
            rw [hff] at hFull
            have HFull := Lib.hid hFull
            have d1 : decide (L < nn) = true := decide_eq_true hbig
            have e1' : cc.1.length = 0 := by rw [e1]; rfl
            rw [e1']
            have hkeep : ∀ w7, Only (fun _ => False) w6 w7 → Calls Try.prog 19 #[.pointer (some ⟨bt2, 0, none⟩)] w7 fun e w' => e = .returned (.bool true) ∧ w' = w7 := by
              intro w7 O7
              have := tabFull_any (HT6.out.only0 O7)
              rwa [hff] at this
            have HKeep := Lib.hid hkeep
            clear e1 e2 hFull hff e1' HFull hkeep hbig
            go_wp2_with fail
            refine HLen.out.mono ?_
            rintro e w7 ⟨rfl, rfl⟩
            go_wp2_with fail
            refine law23_fixed.mono ?_
            rintro e w8 ⟨rfl, O8⟩
            have hF8 := HKeep.out w8 O8
            have HF8 := Lib.hid hF8
            have hO8 := hO6.same O8
            clear hF8 O8
            go_wp2_with fail
            refine HF8.out.mono ?_
            rintro e w9 ⟨rfl, rfl⟩
            go_wp2_with fail
            go_ret
            exact ⟨rfl, hO8⟩
          · have hq := HQ2.out (by omega)
            obtain ⟨e1, -, -⟩ := hq
            have d1 : decide (L < nn) = false := decide_eq_false hbig
            rw [e1] at HI6 ⊢
            have hsame : (out == out) = true := by simp
            clear e1 hbig
            go_wp2_with fail
            refine HLen.out.mono ?_
            rintro e w7 ⟨rfl, rfl⟩
            go_wp2_with fail
            refine law23_fixed.mono ?_
            rintro e w8 ⟨rfl, O8⟩
            have hS := Same_any (HI56.out.only0 O8) (HI6.out.only0 O8)
            rw [hsame] at hS
            have HS := Lib.hid hS
            have hO8 := hO6.same O8
            have hI8 := HIr6.out.only0 O8
            have HI8 := Lib.hid hI8
            clear hS O8 hI8
            go_wp2_with fail
            refine HS.out.mono ?_
            rintro e w9 ⟨rfl, O9⟩
            have hN9 := cnfNew_any w9
            have HN9 := Lib.hid hN9
            have hI9 := HI8.out.only0 O9
            have HI9 := Lib.hid hI9
            have hO9 := hO8.same O9
            clear hN9 hI9 O9 HS
            go_wp2_with fail
            refine HN9.out.mono ?_
            rintro e w10 ⟨bb3, gb3, Vb3, rfl, hB3, hmb3, O10⟩
            have hI10 := HI9.out.only0 O10
            have hO10 := hO9.same O10
            have hZ1 := Count_zero (p := .pointer none) (q := .pointer (some ⟨bb3, 0, none⟩)) hI10 (.inl rfl) (.inr ⟨_, rfl⟩) cap (.inl rfl)
            have hZ2 := Count_zero (p := .pointer (some ⟨bt2, 0, none⟩)) (q := .pointer none) hI10 (.inr ⟨_, rfl⟩) (.inl rfl) cap (.inr (.inl rfl))
            have HZ1 := Lib.hid hZ1
            have HZ22 := Lib.hid hZ2
            clear hZ1 hZ2 hI10 hB3 hmb3 HN9 O10
            go_wp2_with fail
            refine HZ1.out.mono ?_
            rintro e w11 ⟨rfl, rfl⟩
            go_wp2_with fail
            refine HZ22.out.mono ?_
            rintro e w11 ⟨rfl, rfl⟩
            go_wp2_with fail
            go_ret
            exact ⟨rfl, hO10⟩
  · go_enter Try.func3, Try.ntmps3
    go_wp2_with fail
    refine law23_fixed.mono ?_
    rintro e w1 ⟨rfl, O1⟩
    go_wp2_with fail
    go_ret
    exact ⟨rfl, O1⟩
end
end Go.Proofs.Ytjbfgafkjejdjaa

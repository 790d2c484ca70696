/- The walk of cooperlaw22.RupSound. -/
import Derived.Test.YtjbfgafkjejdjaaRupL5
import Derived.Test.YtjbfgafkjejdjaaRup9
import Derived.Test.YtjbfgafkjejdjaaRef21D
namespace Go.Proofs.Ytjbfgafkjejdjaa
open Go.RowKit

theorem wrap_range (x : Int) : InI64 (IntKind.i64.wrap x) := by
  unfold InI64
  rw [IntKind.wrap_i64]
  omega

section
variable {w : World}

set_option maxRecDepth 100000 in
set_option maxHeartbeats 2000000 in
theorem RupSound_walk {z : Int} (hz : 0 ≤ z ∧ z ≤ 255) {vcs vps vg : Value} {css : List (List Int)} {ps : List (Bool × List Int)} {goal : List Int} (hI : IntsS w vcs css) (hS : StepsAt w vps ps) (hg0 : Ints w vg goal) :
    Calls Try.prog 8 #[.int .u8 z, vcs, vps, vg] w fun e w' => e = .returned (.bool true) ∧ Only (fun _ => False) w w' := by
  obtain ⟨z1, z2⟩ := hz
  obtain ⟨ac, cc, rfl, _, _⟩ := hI.shape
  obtain ⟨as_, cs, rfl, _, _⟩ := hS.shape
  obtain ⟨ag, cg, rfl, hgl1, hgl2⟩ := hg0.shape
  cases hg : greatB css ps
  · obtain ⟨hg1, hg2, hg3, hg4⟩ := greatB_le hg
    have HG := Lib.hid hg
    have HG3 := Lib.hid hg3
    have HG4 := Lib.hid hg4
    clear hg hg3 hg4
    by_cases h1 : 12 < goal.length
    · have d1 : decide ((12 : Int) < (goal.length : Int)) = true := decide_eq_true (by omega)
      go_enter Try.func8, Try.ntmps8
      go_wp2_with fail
      refine (great_any hI hS false HG.out).mono ?_
      rintro e w1 ⟨rfl, O1⟩
      go_wp2_with fail
      refine rup_fixed_any.mono ?_
      rintro e w2 ⟨rfl, O2⟩
      go_wp2_with fail
      go_ret
      exact ⟨rfl, O1.same O2⟩
    · have d1 : decide ((12 : Int) < (goal.length : Int)) = false := decide_eq_false (by omega)
      obtain ⟨N, hN⟩ : ∃ N : Nat, (N : Int) = z % 11 := ⟨(z % 11).toNat, by omega⟩
      have hN10 : N ≤ 10 := by omega
      have hN2 : (N : Int) = min (max (N : Int) 0) 65536 := by omega
      have HN2 := Lib.hid hN2
      have hzN : z % 11 = (N : Int) := hN.symm
      have hok := rup_start_ok (N := N) hI.range (by omega) (by omega)
      have hrest := rup_start_rest (m := ps.length) hok (by omega)
      have hlive := Rup.start_live N css
      have hge := Rup.bad_ge ps (Rup.start N css) 0
      have hsnd0 := Rup.proof_sound ps (Rup.start N css) 0 hrest hS.range
      rw [hlive] at hsnd0
      have hpr : Rup.provesB N css ps goal = if 0 ≤ (Rup.start N css).bad ps 0 then false else ps.any fun p => Rup.givesB goal p := rfl
      have hck := fun W (h : Only (fun _ => False) w W) => rup_Check_any (hI.only0 h) (hS.only0 h) (by omega) (fun c hc => by have := HG3.out c hc; omega) (by omega) (fun p hp => by have := HG4.out p hp; omega) (N : Int) N HN2.out
      have hpv := fun W (h : Only (fun _ => False) w W) r hr => rup_Proves_any (hI.only0 h) (hS.only0 h) (hg0.only0 h) (by omega) (fun c hc => by have := HG3.out c hc; omega) (by omega) (fun p hp => by have := HG4.out p hp; omega) (N : Int) N HN2.out r hr
      have HCk := Lib.hid hck
      have HPv := Lib.hid hpv
      have HPr := Lib.hid hpr
      have HSnd0 := Lib.hid hsnd0
      clear hok hrest hlive hsnd0 hpr hck hpv hN hN2
      generalize (Rup.start N css).bad ps 0 = bd at *
      have hge2 : bd = -1 ∨ 0 ≤ bd := by simpa using hge
      have HGe := Lib.hid hge2
      clear hge hge2
      go_enter Try.func8, Try.ntmps8
      go_wp2_with fail
      refine (great_any hI hS false HG.out).mono ?_
      rintro e w1 ⟨rfl, O1⟩
      go_wp2_with fail
      refine (HCk.out _ O1).mono ?_
      rintro e w2 ⟨rfl, O2⟩
      have hO2 := O1.same O2
      clear O2
      go_wp2_with fail
      cases hprv : Rup.provesB N css ps goal
      · refine (HPv.out _ hO2 false hprv).mono ?_
        rintro e w3 ⟨rfl, O3⟩
        have hO3 := hO2.same O3
        clear O3
        go_wp2_with fail
        refine (Kept_any (hI.only0 hO3) (by omega) (fun c hc => by have := HG3.out c hc; omega) _).mono ?_
        rintro e w4 ⟨vk, us, rfl, hK, O4⟩
        have hO4 := hO3.same O4
        clear O4
        go_wp2_with fail
        go_loopw [13, 53] (fun vo v wx => ∃ j : Nat, v = .int .i64 j ∧ j ≤ goal.length ∧ wx.ownsRow 0 3 1 vo j (((goal.take j).map fun x => IntKind.i64.wrap (-x)).map cI) ∧ (∀ i, vo.ownBlock = some i → w4.heap.size ≤ i) ∧ Only (fun _ => False) w4 wx) (fun _ v _ => goal.length - (intOf v).toNat)
        case atStart => exact ⟨0, rfl, Nat.zero_le _, World.ownsRow_nil _ _ _ _, fun j hj => by simp [Value.ownBlock] at hj, Only.refl _ _⟩
        case round =>
          obtain ⟨j, rfl, hj, ro, rb, hO⟩ := hrel
          have HB := Lib.hid rb
          clear rb
          by_cases cj : j < goal.length
          · obtain ⟨bf, of_, rfl, _, hcs⟩ := ((hg0.only0 hO4).only0 hO).cells _ _ _ rfl (by omega)
            have q := hcs j cj
            have hts := take_snocI goal j cj
            have HTS := Lib.hid hts
            clear hcs hts
            generalize goal.getD j 0 = x at *
            obtain ⟨nx, hnx⟩ : ∃ nx, IntKind.i64.wrap (-x) = nx := ⟨_, rfl⟩
            go_wp2_with (at_builtin; go_must (refine wpA1 (u := .int .i64 nx) slInt rfl (.tmp 57) (.tmp 60) rfl rfl rfl (cell_new0 _ _ _) rfl (own_only ro ((Only.refl (fun _ => False) _).alloc _) (fun _ _ f => f)) (by omega) (by decide) ?_))
            intro v2 w5 s1 s2 s3
            have O2 : Only (fun _ => False) w4 w5 := (hO.alloc _).trans s2 (fun k hk => .inr (HB.out k hk))
            have hb2 : ∀ k, v2.ownBlock = some k → w4.heap.size ≤ k := by
              obtain ⟨g, cap, rfl, _, _, h⟩ := s3
              intro k hk
              simp [Value.ownBlock] at hk
              subst hk
              rcases h with h | h
              · exact HB.out _ h
              · have := hO.size; simp at h; omega
            have HB2 := Lib.hid hb2
            have s1' : w5.ownsRow 0 3 1 v2 (j + 1) (((goal.take (j + 1)).map fun x => IntKind.i64.wrap (-x)).map cI) := by
              rw [HTS.out, List.map_append, List.map_append]
              simpa [cI, hnx] using s1
            clear hb2 s1 s2 s3 ro hnx
            go_wp2_with fail
            go_roundw
            case rel => exact ⟨j + 1, by go_num, by omega, s1', HB2.out, O2⟩
            case measure => simp [intOf]; omega
          · have hj' : j = goal.length := by omega
            subst hj'
            have ro' : wr.ownsRow 0 3 1 u13 (goal.map fun x => IntKind.i64.wrap (-x)).length ((goal.map fun x => IntKind.i64.wrap (-x)).map cI) := by
              rw [List.take_of_length_le (Nat.le_refl _)] at ro
              simpa using ro
            have hIl : Ints wr u13 (goal.map fun x => IntKind.i64.wrap (-x)) := Ints.of_own ro' (fun x hx => by
              obtain ⟨y, hy, rfl⟩ := List.mem_map.1 hx
              exact wrap_range _)
            have hKr := hK.only0 hO
            have hOr := hO4.same hO
            clear ro ro' HB
            rcases HGe.out with hbd | hbd
            · have HSnd := Lib.hid (HSnd0.out hbd)
              subst hbd
              obtain ⟨wn, hwn⟩ : ∃ wn, wn = wr := ⟨_, rfl⟩
              rw [← hwn] at hOr hKr hIl ⊢
              have hOn := hOr
              have hKn := hKr
              clear hOr hKr hwn hO
              go_wp2_with fail
              go_loopw [80] (fun v wr => ∃ k : Nat, v = .int .i64 k ∧ k ≤ ps.length ∧ Only (fun _ => False) wn wr) (fun v _ => ps.length - (intOf v).toNat)
              case atStart => exact ⟨0, rfl, Nat.zero_le _, Only.refl _ _⟩
              case round =>
                obtain ⟨k, rfl, hk, hOk⟩ := hrel
                have hOw := hOn.same hOk
                by_cases ck : k < ps.length
                · obtain ⟨b, off, us, rfl, _, hcs⟩ := (hS.only0 hOw).cells _ _ _ rfl (by omega)
                  obtain ⟨q1, q2, hu⟩ := hcs k ck
                  have hsk := fun m hm => HSnd.out m hm _ (getD_mem' (false, []) ck)
                  have hpl := HG4.out _ (getD_mem' (false, []) ck)
                  have HSk := Lib.hid hsk
                  clear hcs hsk
                  generalize ps.getD k (false, []) = p at *
                  obtain ⟨gone, c⟩ := p
                  simp only at q1 q2 hu HSk hpl
                  obtain ⟨au, cu, hue, hu1, hu2⟩ := hu.shape
                  rw [hue] at q2 hu
                  clear hue
                  have hOa : Only (fun _ => False) wn (wr.alloc (.cells #[.bool gone, .slice au c.length cu] 48)) := hOk.alloc _
                  have hua := hu.only0 ((Only.refl (fun _ => False) wr).alloc (.cells #[.bool gone, .slice au c.length cu] 48))
                  have ca0 : (wr.alloc (.cells #[.bool gone, .slice au c.length cu] 48)).cell? ⟨wr.heap.size, 0, none⟩ = some (.bool gone) := by simp
                  have HOa := Lib.hid hOa
                  have HCa := Lib.hid ca0
                  clear hOa ca0
                  go_wp2_with fail
                  generalize hwa : wr.alloc (.cells #[.bool gone, .slice au c.length cu] 48) = wa at *
                  generalize hBB : wr.heap.size = BB at *
                  clear hwa hBB q1 q2
                  go_loopw [18, 87] (fun vo v wx => ∃ j : Nat, v = .int .i64 j ∧ j ≤ c.length ∧ wx.ownsRow 0 3 1 vo j (((c.take j).map fun x => IntKind.i64.wrap (-x)).map cI) ∧ (∀ i, vo.ownBlock = some i → wa.heap.size ≤ i) ∧ Only (fun _ => False) wa wx) (fun _ v _ => c.length - (intOf v).toNat)
                  case atStart => exact ⟨0, rfl, Nat.zero_le _, World.ownsRow_nil _ _ _ _, fun j hj => by simp [Value.ownBlock] at hj, Only.refl _ _⟩
                  case round =>
                    obtain ⟨j, rfl, hj, ro, rb, hO⟩ := hrel
                    have HB := Lib.hid rb
                    clear rb
                    by_cases cj : j < c.length
                    · obtain ⟨bf, of_, rfl, _, hcs⟩ := (hua.only0 hO).cells _ _ _ rfl (by omega)
                      have q := hcs j cj
                      have hts := take_snocI c j cj
                      have HTS := Lib.hid hts
                      clear hcs hts
                      generalize c.getD j 0 = x at *
                      obtain ⟨nx, hnx⟩ : ∃ nx, IntKind.i64.wrap (-x) = nx := ⟨_, rfl⟩
                      go_wp2_with (at_builtin; go_must (refine wpA1 (u := .int .i64 nx) slInt rfl (.tmp 91) (.tmp 94) rfl rfl rfl (cell_new0 _ _ _) rfl (own_only ro ((Only.refl (fun _ => False) _).alloc _) (fun _ _ f => f)) (by omega) (by decide) ?_))
                      intro v2 w2 s1 s2 s3
                      have O2 : Only (fun _ => False) wa w2 := (hO.alloc _).trans s2 (fun k hk => .inr (HB.out k hk))
                      have hb2 : ∀ k, v2.ownBlock = some k → wa.heap.size ≤ k := by
                        obtain ⟨g, cap, rfl, _, _, h⟩ := s3
                        intro k hk
                        simp [Value.ownBlock] at hk
                        subst hk
                        rcases h with h | h
                        · exact HB.out _ h
                        · have := hO.size; simp at h; omega
                      have HB2 := Lib.hid hb2
                      have s1' : w2.ownsRow 0 3 1 v2 (j + 1) (((c.take (j + 1)).map fun x => IntKind.i64.wrap (-x)).map cI) := by
                        rw [HTS.out, List.map_append, List.map_append]
                        simpa [cI, hnx] using s1
                      clear hb2 s1 s2 s3 ro hnx
                      go_wp2_with fail
                      go_roundw
                      case rel => exact ⟨j + 1, by go_num, by omega, s1', HB2.out, O2⟩
                      case measure => simp [intOf]; omega
                    · have hj' : j = c.length := by omega
                      subst hj'
                      have ro' : wr.ownsRow 0 3 1 u18 (c.map fun x => IntKind.i64.wrap (-x)).length ((c.map fun x => IntKind.i64.wrap (-x)).map cI) := by
                        rw [List.take_of_length_le (Nat.le_refl _)] at ro
                        simpa using ro
                      have hIl : Ints wr u18 (c.map fun x => IntKind.i64.wrap (-x)) := Ints.of_own ro' (fun x hx => by
                        obtain ⟨y, hy, rfl⟩ := List.mem_map.1 hx
                        exact wrap_range _)
                      have hcell := cell_keep HCa.out hO (fun f => f)
                      have hOx : Only (fun _ => False) wn wr := HOa.out.same hO
                      have hKx := hKn.intsS.only0 hOx
                      clear ro ro' HB
                      obtain ⟨ai, ci, rfl, _, _⟩ := hIl.shape
                      try simp only [List.length_map] at hIl
                      cases gone
                      · have hany := Any_any hKx hIl N (by omega) _ rfl
                        have HAny := Lib.hid hany
                        clear hany
                        try simp only [List.length_map] at HAny
                        go_wp2_with fail
                        refine HAny.out.mono ?_
                        rintro e w3 ⟨r, rfl, hr, O3⟩
                        have hrf : r = false := by
                          cases r
                          · rfl
                          · exfalso
                            obtain ⟨m, hml, hmh, hma⟩ := hr rfl
                            obtain ⟨h1, h2⟩ := HSk.out m (Rup.holds_sat hmh)
                            rw [Rup.not_all_neg h2 (h1 (by simp))] at hma
                            cases hma
                        subst hrf
                        clear hr
                        go_wp2_with fail
                        go_roundw
                        case rel => exact ⟨k + 1, by go_num, by omega, hOx.same O3⟩
                        case measure => simp [intOf]; omega
                      · go_wp2_with fail
                        go_roundw
                        case rel => exact ⟨k + 1, by go_num, by omega, hOx⟩
                        case measure => simp [intOf]; omega
                · go_wp2_with fail
                  refine rup_fixed_any.mono ?_
                  rintro e w9 ⟨rfl, O9⟩
                  go_wp2_with fail
                  go_ret
                  exact ⟨rfl, hOw.same O9⟩
            · have d5 : (bd == -1) = false := beq_eq_false_iff_ne.2 (by omega)
              clear hIl
              go_wp2_with fail
              refine rup_fixed_any.mono ?_
              rintro e w9 ⟨rfl, O9⟩
              go_wp2_with fail
              go_ret
              exact ⟨rfl, hOr.same O9⟩
      · have hbd : bd = -1 := by
          rcases HGe.out with h | h
          · exact h
          · rw [HPr.out, if_pos h] at hprv; cases hprv
        have hgv : ∃ p ∈ ps, Rup.givesB goal p = true := by
          rw [HPr.out, if_neg (by omega)] at hprv
          exact List.any_eq_true.1 hprv
        have HSnd := Lib.hid (HSnd0.out hbd)
        have HGv := Lib.hid hgv
        subst hbd
        clear hgv
        refine (HPv.out _ hO2 true hprv).mono ?_
        rintro e w3 ⟨rfl, O3⟩
        have hO3 := hO2.same O3
        clear O3 hprv
        go_wp2_with fail
        refine (Kept_any (hI.only0 hO3) (by omega) (fun c hc => by have := HG3.out c hc; omega) _).mono ?_
        rintro e w4 ⟨vk, us, rfl, hK, O4⟩
        have hO4 := hO3.same O4
        clear O4
        go_wp2_with fail
        go_loopw [13, 53] (fun vo v wx => ∃ j : Nat, v = .int .i64 j ∧ j ≤ goal.length ∧ wx.ownsRow 0 3 1 vo j (((goal.take j).map fun x => IntKind.i64.wrap (-x)).map cI) ∧ (∀ i, vo.ownBlock = some i → w4.heap.size ≤ i) ∧ Only (fun _ => False) w4 wx) (fun _ v _ => goal.length - (intOf v).toNat)
        case atStart => exact ⟨0, rfl, Nat.zero_le _, World.ownsRow_nil _ _ _ _, fun j hj => by simp [Value.ownBlock] at hj, Only.refl _ _⟩
        case round =>
          obtain ⟨j, rfl, hj, ro, rb, hO⟩ := hrel
          have HB := Lib.hid rb
          clear rb
          by_cases cj : j < goal.length
          · obtain ⟨bf, of_, rfl, _, hcs⟩ := ((hg0.only0 hO4).only0 hO).cells _ _ _ rfl (by omega)
            have q := hcs j cj
            have hts := take_snocI goal j cj
            have HTS := Lib.hid hts
            clear hcs hts
            generalize goal.getD j 0 = x at *
            obtain ⟨nx, hnx⟩ : ∃ nx, IntKind.i64.wrap (-x) = nx := ⟨_, rfl⟩
            go_wp2_with (at_builtin; go_must (refine wpA1 (u := .int .i64 nx) slInt rfl (.tmp 57) (.tmp 60) rfl rfl rfl (cell_new0 _ _ _) rfl (own_only ro ((Only.refl (fun _ => False) _).alloc _) (fun _ _ f => f)) (by omega) (by decide) ?_))
            intro v2 w5 s1 s2 s3
            have O2 : Only (fun _ => False) w4 w5 := (hO.alloc _).trans s2 (fun k hk => .inr (HB.out k hk))
            have hb2 : ∀ k, v2.ownBlock = some k → w4.heap.size ≤ k := by
              obtain ⟨g, cap, rfl, _, _, h⟩ := s3
              intro k hk
              simp [Value.ownBlock] at hk
              subst hk
              rcases h with h | h
              · exact HB.out _ h
              · have := hO.size; simp at h; omega
            have HB2 := Lib.hid hb2
            have s1' : w5.ownsRow 0 3 1 v2 (j + 1) (((goal.take (j + 1)).map fun x => IntKind.i64.wrap (-x)).map cI) := by
              rw [HTS.out, List.map_append, List.map_append]
              simpa [cI, hnx] using s1
            clear hb2 s1 s2 s3 ro hnx
            go_wp2_with fail
            go_roundw
            case rel => exact ⟨j + 1, by go_num, by omega, s1', HB2.out, O2⟩
            case measure => simp [intOf]; omega
          · have hj' : j = goal.length := by omega
            subst hj'
            have ro' : wr.ownsRow 0 3 1 u13 (goal.map fun x => IntKind.i64.wrap (-x)).length ((goal.map fun x => IntKind.i64.wrap (-x)).map cI) := by
              rw [List.take_of_length_le (Nat.le_refl _)] at ro
              simpa using ro
            have hIl : Ints wr u13 (goal.map fun x => IntKind.i64.wrap (-x)) := Ints.of_own ro' (fun x hx => by
              obtain ⟨y, hy, rfl⟩ := List.mem_map.1 hx
              exact wrap_range _)
            have hKr := hK.only0 hO
            have hOr := hO4.same hO
            clear ro ro' HB
            cases hrt : Cnf.right N goal
            · have HRt := Lib.hid hrt
              clear hrt hIl
              go_wp2_with fail
              refine (Right_any (hg0.only0 hOr) (by omega) N false HRt.out).mono ?_
              rintro e wn ⟨rfl, Or⟩
              have hOn := hOr.same Or
              have hKn := hKr.only0 Or
              clear hOr hKr Or hO
              go_wp2_with fail
              go_loopw [80] (fun v wr => ∃ k : Nat, v = .int .i64 k ∧ k ≤ ps.length ∧ Only (fun _ => False) wn wr) (fun v _ => ps.length - (intOf v).toNat)
              case atStart => exact ⟨0, rfl, Nat.zero_le _, Only.refl _ _⟩
              case round =>
                obtain ⟨k, rfl, hk, hOk⟩ := hrel
                have hOw := hOn.same hOk
                by_cases ck : k < ps.length
                · obtain ⟨b, off, us, rfl, _, hcs⟩ := (hS.only0 hOw).cells _ _ _ rfl (by omega)
                  obtain ⟨q1, q2, hu⟩ := hcs k ck
                  have hsk := fun m hm => HSnd.out m hm _ (getD_mem' (false, []) ck)
                  have hpl := HG4.out _ (getD_mem' (false, []) ck)
                  have HSk := Lib.hid hsk
                  clear hcs hsk
                  generalize ps.getD k (false, []) = p at *
                  obtain ⟨gone, c⟩ := p
                  simp only at q1 q2 hu HSk hpl
                  obtain ⟨au, cu, hue, hu1, hu2⟩ := hu.shape
                  rw [hue] at q2 hu
                  clear hue
                  have hOa : Only (fun _ => False) wn (wr.alloc (.cells #[.bool gone, .slice au c.length cu] 48)) := hOk.alloc _
                  have hua := hu.only0 ((Only.refl (fun _ => False) wr).alloc (.cells #[.bool gone, .slice au c.length cu] 48))
                  have ca0 : (wr.alloc (.cells #[.bool gone, .slice au c.length cu] 48)).cell? ⟨wr.heap.size, 0, none⟩ = some (.bool gone) := by simp
                  have HOa := Lib.hid hOa
                  have HCa := Lib.hid ca0
                  clear hOa ca0
                  go_wp2_with fail
                  generalize hwa : wr.alloc (.cells #[.bool gone, .slice au c.length cu] 48) = wa at *
                  generalize hBB : wr.heap.size = BB at *
                  clear hwa hBB q1 q2
                  go_loopw [18, 87] (fun vo v wx => ∃ j : Nat, v = .int .i64 j ∧ j ≤ c.length ∧ wx.ownsRow 0 3 1 vo j (((c.take j).map fun x => IntKind.i64.wrap (-x)).map cI) ∧ (∀ i, vo.ownBlock = some i → wa.heap.size ≤ i) ∧ Only (fun _ => False) wa wx) (fun _ v _ => c.length - (intOf v).toNat)
                  case atStart => exact ⟨0, rfl, Nat.zero_le _, World.ownsRow_nil _ _ _ _, fun j hj => by simp [Value.ownBlock] at hj, Only.refl _ _⟩
                  case round =>
                    obtain ⟨j, rfl, hj, ro, rb, hO⟩ := hrel
                    have HB := Lib.hid rb
                    clear rb
                    by_cases cj : j < c.length
                    · obtain ⟨bf, of_, rfl, _, hcs⟩ := (hua.only0 hO).cells _ _ _ rfl (by omega)
                      have q := hcs j cj
                      have hts := take_snocI c j cj
                      have HTS := Lib.hid hts
                      clear hcs hts
                      generalize c.getD j 0 = x at *
                      obtain ⟨nx, hnx⟩ : ∃ nx, IntKind.i64.wrap (-x) = nx := ⟨_, rfl⟩
                      go_wp2_with (at_builtin; go_must (refine wpA1 (u := .int .i64 nx) slInt rfl (.tmp 91) (.tmp 94) rfl rfl rfl (cell_new0 _ _ _) rfl (own_only ro ((Only.refl (fun _ => False) _).alloc _) (fun _ _ f => f)) (by omega) (by decide) ?_))
                      intro v2 w2 s1 s2 s3
                      have O2 : Only (fun _ => False) wa w2 := (hO.alloc _).trans s2 (fun k hk => .inr (HB.out k hk))
                      have hb2 : ∀ k, v2.ownBlock = some k → wa.heap.size ≤ k := by
                        obtain ⟨g, cap, rfl, _, _, h⟩ := s3
                        intro k hk
                        simp [Value.ownBlock] at hk
                        subst hk
                        rcases h with h | h
                        · exact HB.out _ h
                        · have := hO.size; simp at h; omega
                      have HB2 := Lib.hid hb2
                      have s1' : w2.ownsRow 0 3 1 v2 (j + 1) (((c.take (j + 1)).map fun x => IntKind.i64.wrap (-x)).map cI) := by
                        rw [HTS.out, List.map_append, List.map_append]
                        simpa [cI, hnx] using s1
                      clear hb2 s1 s2 s3 ro hnx
                      go_wp2_with fail
                      go_roundw
                      case rel => exact ⟨j + 1, by go_num, by omega, s1', HB2.out, O2⟩
                      case measure => simp [intOf]; omega
                    · have hj' : j = c.length := by omega
                      subst hj'
                      have ro' : wr.ownsRow 0 3 1 u18 (c.map fun x => IntKind.i64.wrap (-x)).length ((c.map fun x => IntKind.i64.wrap (-x)).map cI) := by
                        rw [List.take_of_length_le (Nat.le_refl _)] at ro
                        simpa using ro
                      have hIl : Ints wr u18 (c.map fun x => IntKind.i64.wrap (-x)) := Ints.of_own ro' (fun x hx => by
                        obtain ⟨y, hy, rfl⟩ := List.mem_map.1 hx
                        exact wrap_range _)
                      have hcell := cell_keep HCa.out hO (fun f => f)
                      have hOx : Only (fun _ => False) wn wr := HOa.out.same hO
                      have hKx := hKn.intsS.only0 hOx
                      clear ro ro' HB
                      obtain ⟨ai, ci, rfl, _, _⟩ := hIl.shape
                      try simp only [List.length_map] at hIl
                      cases gone
                      · have hany := Any_any hKx hIl N (by omega) _ rfl
                        have HAny := Lib.hid hany
                        clear hany
                        try simp only [List.length_map] at HAny
                        go_wp2_with fail
                        refine HAny.out.mono ?_
                        rintro e w3 ⟨r, rfl, hr, O3⟩
                        have hrf : r = false := by
                          cases r
                          · rfl
                          · exfalso
                            obtain ⟨m, hml, hmh, hma⟩ := hr rfl
                            obtain ⟨h1, h2⟩ := HSk.out m (Rup.holds_sat hmh)
                            rw [Rup.not_all_neg h2 (h1 (by simp))] at hma
                            cases hma
                        subst hrf
                        clear hr
                        go_wp2_with fail
                        go_roundw
                        case rel => exact ⟨k + 1, by go_num, by omega, hOx.same O3⟩
                        case measure => simp [intOf]; omega
                      · go_wp2_with fail
                        go_roundw
                        case rel => exact ⟨k + 1, by go_num, by omega, hOx⟩
                        case measure => simp [intOf]; omega
                · go_wp2_with fail
                  refine rup_fixed_any.mono ?_
                  rintro e w9 ⟨rfl, O9⟩
                  go_wp2_with fail
                  go_ret
                  exact ⟨rfl, hOw.same O9⟩
            · have HRt := Lib.hid hrt
              clear hrt
              obtain ⟨ai, ci, rfl, _, _⟩ := hIl.shape
              try simp only [List.length_map] at hIl
              have hKI := hKr.intsS
              obtain ⟨ak, ck2, rfl, _, _⟩ := hKI.shape
              go_wp2_with fail
              refine (Right_any (hg0.only0 hOr) (by omega) N true HRt.out).mono ?_
              rintro e w7 ⟨rfl, Or⟩
              have hany := Any_any (hKI.only0 Or) (hIl.only0 Or) N (by omega) _ rfl
              try simp only [List.length_map] at hany
              have HAny := Lib.hid hany
              clear hany
              go_wp2_with fail
              refine HAny.out.mono ?_
              rintro e wn ⟨r, rfl, hr, O7⟩
              have hrf : r = false := by
                cases r
                · rfl
                · exfalso
                  obtain ⟨m, hml, hmh, hma⟩ := hr rfl
                  obtain ⟨p, hp, hgvp⟩ := HGv.out
                  obtain ⟨h1, h2⟩ := HSnd.out m (Rup.holds_sat hmh) p hp
                  unfold Rup.givesB at hgvp
                  simp only [Bool.and_eq_true, Bool.not_eq_true', List.all_eq_true, List.contains_iff_mem] at hgvp
                  obtain ⟨x, hx, hs⟩ := h1 hgvp.1
                  have hgl : ∀ x ∈ goal, Cnf.Lit x := by
                    have h := HRt.out
                    unfold Cnf.right at h
                    simp only [Bool.and_eq_true, List.all_eq_true] at h
                    intro y hy
                    have := h.1 y hy
                    unfold Cnf.okAt at this
                    simp only [Bool.and_eq_true, Bool.not_eq_true'] at this
                    exact ⟨hg0.range y hy, this.1⟩
                  rw [Rup.not_all_neg hgl ⟨x, hgvp.2 x hx, hs⟩] at hma
                  cases hma
              subst hrf
              have hOn := (hOr.same Or).same O7
              have hKn := (hKr.only0 Or).only0 O7
              clear hOr hKr Or hO hr O7 hIl hKI
              go_wp2_with fail
              go_loopw [80] (fun v wr => ∃ k : Nat, v = .int .i64 k ∧ k ≤ ps.length ∧ Only (fun _ => False) wn wr) (fun v _ => ps.length - (intOf v).toNat)
              case atStart => exact ⟨0, rfl, Nat.zero_le _, Only.refl _ _⟩
              case round =>
                obtain ⟨k, rfl, hk, hOk⟩ := hrel
                have hOw := hOn.same hOk
                by_cases ck : k < ps.length
                · obtain ⟨b, off, us, rfl, _, hcs⟩ := (hS.only0 hOw).cells _ _ _ rfl (by omega)
                  obtain ⟨q1, q2, hu⟩ := hcs k ck
                  have hsk := fun m hm => HSnd.out m hm _ (getD_mem' (false, []) ck)
                  have hpl := HG4.out _ (getD_mem' (false, []) ck)
                  have HSk := Lib.hid hsk
                  clear hcs hsk
                  generalize ps.getD k (false, []) = p at *
                  obtain ⟨gone, c⟩ := p
                  simp only at q1 q2 hu HSk hpl
                  obtain ⟨au, cu, hue, hu1, hu2⟩ := hu.shape
                  rw [hue] at q2 hu
                  clear hue
                  have hOa : Only (fun _ => False) wn (wr.alloc (.cells #[.bool gone, .slice au c.length cu] 48)) := hOk.alloc _
                  have hua := hu.only0 ((Only.refl (fun _ => False) wr).alloc (.cells #[.bool gone, .slice au c.length cu] 48))
                  have ca0 : (wr.alloc (.cells #[.bool gone, .slice au c.length cu] 48)).cell? ⟨wr.heap.size, 0, none⟩ = some (.bool gone) := by simp
                  have HOa := Lib.hid hOa
                  have HCa := Lib.hid ca0
                  clear hOa ca0
                  go_wp2_with fail
                  generalize hwa : wr.alloc (.cells #[.bool gone, .slice au c.length cu] 48) = wa at *
                  generalize hBB : wr.heap.size = BB at *
                  clear hwa hBB q1 q2
                  go_loopw [18, 87] (fun vo v wx => ∃ j : Nat, v = .int .i64 j ∧ j ≤ c.length ∧ wx.ownsRow 0 3 1 vo j (((c.take j).map fun x => IntKind.i64.wrap (-x)).map cI) ∧ (∀ i, vo.ownBlock = some i → wa.heap.size ≤ i) ∧ Only (fun _ => False) wa wx) (fun _ v _ => c.length - (intOf v).toNat)
                  case atStart => exact ⟨0, rfl, Nat.zero_le _, World.ownsRow_nil _ _ _ _, fun j hj => by simp [Value.ownBlock] at hj, Only.refl _ _⟩
                  case round =>
                    obtain ⟨j, rfl, hj, ro, rb, hO⟩ := hrel
                    have HB := Lib.hid rb
                    clear rb
                    by_cases cj : j < c.length
                    · obtain ⟨bf, of_, rfl, _, hcs⟩ := (hua.only0 hO).cells _ _ _ rfl (by omega)
                      have q := hcs j cj
                      have hts := take_snocI c j cj
                      have HTS := Lib.hid hts
                      clear hcs hts
                      generalize c.getD j 0 = x at *
                      obtain ⟨nx, hnx⟩ : ∃ nx, IntKind.i64.wrap (-x) = nx := ⟨_, rfl⟩
                      go_wp2_with (at_builtin; go_must (refine wpA1 (u := .int .i64 nx) slInt rfl (.tmp 91) (.tmp 94) rfl rfl rfl (cell_new0 _ _ _) rfl (own_only ro ((Only.refl (fun _ => False) _).alloc _) (fun _ _ f => f)) (by omega) (by decide) ?_))
                      intro v2 w2 s1 s2 s3
                      have O2 : Only (fun _ => False) wa w2 := (hO.alloc _).trans s2 (fun k hk => .inr (HB.out k hk))
                      have hb2 : ∀ k, v2.ownBlock = some k → wa.heap.size ≤ k := by
                        obtain ⟨g, cap, rfl, _, _, h⟩ := s3
                        intro k hk
                        simp [Value.ownBlock] at hk
                        subst hk
                        rcases h with h | h
                        · exact HB.out _ h
                        · have := hO.size; simp at h; omega
                      have HB2 := Lib.hid hb2
                      have s1' : w2.ownsRow 0 3 1 v2 (j + 1) (((c.take (j + 1)).map fun x => IntKind.i64.wrap (-x)).map cI) := by
                        rw [HTS.out, List.map_append, List.map_append]
                        simpa [cI, hnx] using s1
                      clear hb2 s1 s2 s3 ro hnx
                      go_wp2_with fail
                      go_roundw
                      case rel => exact ⟨j + 1, by go_num, by omega, s1', HB2.out, O2⟩
                      case measure => simp [intOf]; omega
                    · have hj' : j = c.length := by omega
                      subst hj'
                      have ro' : wr.ownsRow 0 3 1 u18 (c.map fun x => IntKind.i64.wrap (-x)).length ((c.map fun x => IntKind.i64.wrap (-x)).map cI) := by
                        rw [List.take_of_length_le (Nat.le_refl _)] at ro
                        simpa using ro
                      have hIl : Ints wr u18 (c.map fun x => IntKind.i64.wrap (-x)) := Ints.of_own ro' (fun x hx => by
                        obtain ⟨y, hy, rfl⟩ := List.mem_map.1 hx
                        exact wrap_range _)
                      have hcell := cell_keep HCa.out hO (fun f => f)
                      have hOx : Only (fun _ => False) wn wr := HOa.out.same hO
                      have hKx := hKn.intsS.only0 hOx
                      clear ro ro' HB
                      obtain ⟨ai, ci, rfl, _, _⟩ := hIl.shape
                      try simp only [List.length_map] at hIl
                      cases gone
                      · have hany := Any_any hKx hIl N (by omega) _ rfl
                        have HAny := Lib.hid hany
                        clear hany
                        try simp only [List.length_map] at HAny
                        go_wp2_with fail
                        refine HAny.out.mono ?_
                        rintro e w3 ⟨r, rfl, hr, O3⟩
                        have hrf : r = false := by
                          cases r
                          · rfl
                          · exfalso
                            obtain ⟨m, hml, hmh, hma⟩ := hr rfl
                            obtain ⟨h1, h2⟩ := HSk.out m (Rup.holds_sat hmh)
                            rw [Rup.not_all_neg h2 (h1 (by simp))] at hma
                            cases hma
                        subst hrf
                        clear hr
                        go_wp2_with fail
                        go_roundw
                        case rel => exact ⟨k + 1, by go_num, by omega, hOx.same O3⟩
                        case measure => simp [intOf]; omega
                      · go_wp2_with fail
                        go_roundw
                        case rel => exact ⟨k + 1, by go_num, by omega, hOx⟩
                        case measure => simp [intOf]; omega
                · go_wp2_with fail
                  refine rup_fixed_any.mono ?_
                  rintro e w9 ⟨rfl, O9⟩
                  go_wp2_with fail
                  go_ret
                  exact ⟨rfl, hOw.same O9⟩
  · have HG := Lib.hid hg
    clear hg
    go_enter Try.func8, Try.ntmps8
    go_wp2_with fail
    refine (great_any hI hS true HG.out).mono ?_
    rintro e w1 ⟨rfl, O1⟩
    go_wp2_with fail
    refine rup_fixed_any.mono ?_
    rintro e w2 ⟨rfl, O2⟩
    go_wp2_with fail
    go_ret
    exact ⟨rfl, O1.same O2⟩
end
end Go.Proofs.Ytjbfgafkjejdjaa

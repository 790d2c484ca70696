/- HeapPlays: what one operation does to the heap and to the document's own row: the switch. -/
import Derived.Test.YtgbdmembacjooaaHeapPlays2
namespace Go.Proofs.Ytgbdmembacjooaa
open Go.RowKit

def PlayPost (w : World) (b : Nat) (va vs : Value) (gi gs k : Nat) (wx : World) : Prop :=
  ∃ (vl : Value) (h : Hp) (In : List Bool) (Sc : List Nat), PlayAt w wx b vl va vs gi gs k h In Sc ∧ Agree k h In Sc

set_option maxHeartbeats 64000000 in
set_option maxRecDepth 1000000 in
theorem plays_switch {s0 s1 s2 s3 s4 s9 s10 s13 s14 s15 s16 s17 s18 s19 s20 s21 s22 s23 s24 s25 s26 s27 s28 s29 s30 s31 s32 s33 s34 s35 s36 s37 s38 s39 s40 s41 s42 s43 s44 s45 s46 s47 s48 s49 s50 s51 s52 s53 s54 s55 s56 s57 s58 s59 s60 s62 s63 s64 s65 s66 s67 s68 s69 s70 s71 s72 s73 s74 s75 s76 s77 s78 s79 s80 s81 s82 s83 s84 s85 s86 s87 s88 s89 s90 s91 s92 s93 s94 s95 s96 s97 s98 s99 s100 s101 s102 s103 s104 s105 s106 s107 s108 s109 s110 s111 s112 s113 s114 s115 s116 s117 s118 s119 s120 s121 s122 s123 s124 s125 s126 s127 s128 s129 s130 s131 s132 s133 s134 s135 s136 s137 s138 s139 s140 s141 s142 s143 s144 s145 s146 s147 s148 s149 s150 s151 s152 s153 s154 s155 s156 s157 s158 s159 s160 s161 s162 s163 s164 s165 s166 s167 s168 s169 s170 s171 s172 s173 s174 s175 s176 s177 s178 s179 s180 s181 s182 s183 s184 s185 s186 s187 s188 s189 s190 s191 s192 s193 s194 s195 s196 s197 s198 s199 s200 s201 s202 s203 s204 s205 s206 s207 s208 s209 s210 : Value} {w wc : World} {b k gi gs g : Nat} {isv : Bool} {kd at_ : Int} {y : Nat} {vl1 va vs : Value} {h1 : Hp} {In1 : List Bool} {Sc1 : List Nat} {Q : Exit → Act → World → Prop}
    (hk2 : k ≤ 300) (q3 : y < 18446744073709551616) (hisv : isv = true ↔ 1 ≤ at_ ∧ at_ ≤ k) (P1 : PlayAt w wc b vl1 va vs gi gs k h1 In1 Sc1) (A1 : Agree k h1 In1 Sc1) (o1 : OpAt w wc b vl1 va vs gi gs g kd at_ y)
    (hQ : ∀ (t13 t14 t15 t16 t62 t63 t64 t65 t66 t67 t68 t69 t70 t71 t72 t73 t74 t75 t76 t77 t78 t79 t80 t81 t82 t83 t84 t85 t86 t87 t88 t89 t90 t91 t92 t93 t94 t95 t96 t97 t98 t99 t100 t101 t102 t103 t104 t105 t106 t107 t108 t109 t110 t111 t112 t113 t114 t115 t116 t117 t118 t119 t120 t121 t122 t123 t124 t125 t126 t127 t128 t129 t130 t131 t132 t133 t134 t135 t136 t137 t138 t139 t140 t141 t142 t143 t144 t145 t146 t147 t148 t149 t150 t151 t152 t153 t154 t155 t156 t157 t158 t159 t160 t161 : Value) (wx : World), PlayPost w b va vs gi gs k wx → Q .normal ⟨#[s0, s1, s2, s3, s4, (.pointer (some ⟨b, 0, none⟩)), (.int .i64 (k : Int)), (.slice (some ⟨gi, 0, none⟩) k k), (.slice (some ⟨gs, 0, none⟩) k k), s9, s10, (.pointer (some ⟨g, 0, none⟩)), (.bool isv), t13, t14, t15, t16, s17, s18, s19, s20, s21, s22, s23, s24, s25, s26, s27, s28, s29, s30, s31, s32, s33, s34, s35, s36, s37, s38, s39, s40, s41, s42, s43, s44, s45, s46, s47, s48, s49, s50, s51, s52, s53, s54, s55, s56, s57, s58, s59, s60, (.int .i64 kd), t62, t63, t64, t65, t66, t67, t68, t69, t70, t71, t72, t73, t74, t75, t76, t77, t78, t79, t80, t81, t82, t83, t84, t85, t86, t87, t88, t89, t90, t91, t92, t93, t94, t95, t96, t97, t98, t99, t100, t101, t102, t103, t104, t105, t106, t107, t108, t109, t110, t111, t112, t113, t114, t115, t116, t117, t118, t119, t120, t121, t122, t123, t124, t125, t126, t127, t128, t129, t130, t131, t132, t133, t134, t135, t136, t137, t138, t139, t140, t141, t142, t143, t144, t145, t146, t147, t148, t149, t150, t151, t152, t153, t154, t155, t156, t157, t158, t159, t160, t161, s162, s163, s164, s165, s166, s167, s168, s169, s170, s171, s172, s173, s174, s175, s176, s177, s178, s179, s180, s181, s182, s183, s184, s185, s186, s187, s188, s189, s190, s191, s192, s193, s194, s195, s196, s197, s198, s199, s200, s201, s202, s203, s204, s205, s206, s207, s208, s209, s210], []⟩ wx) :
    (Code.block 4 playsSwitch).wp Try.prog Q ⟨#[s0, s1, s2, s3, s4, (.pointer (some ⟨b, 0, none⟩)), (.int .i64 (k : Int)), (.slice (some ⟨gi, 0, none⟩) k k), (.slice (some ⟨gs, 0, none⟩) k k), s9, s10, (.pointer (some ⟨g, 0, none⟩)), (.bool isv), s13, s14, s15, s16, s17, s18, s19, s20, s21, s22, s23, s24, s25, s26, s27, s28, s29, s30, s31, s32, s33, s34, s35, s36, s37, s38, s39, s40, s41, s42, s43, s44, s45, s46, s47, s48, s49, s50, s51, s52, s53, s54, s55, s56, s57, s58, s59, s60, (.int .i64 kd), s62, s63, s64, s65, s66, s67, s68, s69, s70, s71, s72, s73, s74, s75, s76, s77, s78, s79, s80, s81, s82, s83, s84, s85, s86, s87, s88, s89, s90, s91, s92, s93, s94, s95, s96, s97, s98, s99, s100, s101, s102, s103, s104, s105, s106, s107, s108, s109, s110, s111, s112, s113, s114, s115, s116, s117, s118, s119, s120, s121, s122, s123, s124, s125, s126, s127, s128, s129, s130, s131, s132, s133, s134, s135, s136, s137, s138, s139, s140, s141, s142, s143, s144, s145, s146, s147, s148, s149, s150, s151, s152, s153, s154, s155, s156, s157, s158, s159, s160, s161, s162, s163, s164, s165, s166, s167, s168, s169, s170, s171, s172, s173, s174, s175, s176, s177, s178, s179, s180, s181, s182, s183, s184, s185, s186, s187, s188, s189, s190, s191, s192, s193, s194, s195, s196, s197, s198, s199, s200, s201, s202, s203, s204, s205, s206, s207, s208, s209, s210], []⟩ wc := by
  have HQ := Lib.hid hQ
  clear hQ
  have r0 := o1.c0
  have r1 := o1.c1
  conv => arg 2; arg 2; whnf
  have r2 := o1.c2
  have hSk : h1.S.length = k := by rw [A1.S]; exact P1.scl
  have HSk := Lib.hid hSk
  clear hSk
  by_cases k0 : kd = 0
  · subst k0
    cases isv
    · have hno : at_ < 1 ∨ (h1.S.length : Int) < at_ := by
        rw [HSk.out]
        have := mt hisv.2 (by simp)
        omega
      have HNO := Lib.hid hno
      clear hno hisv
      go_wp2_with fail
      refine (Bump_no P1.H P1.ok _ _ HNO.out).mono ?_
      rintro e w2 ⟨rfl, rfl⟩
      go_wp2_with fail
      refine HQ.out _ _ _ _ _ _ _ _ _ _ _ _ _ _ _ _ _ _ _ _ _ _ _ _ _ _ _ _ _ _ _ _ _ _ _ _ _ _ _ _ _ _ _ _ _ _ _ _ _ _ _ _ _ _ _ _ _ _ _ _ _ _ _ _ _ _ _ _ _ _ _ _ _ _ _ _ _ _ _ _ _ _ _ _ _ _ _ _ _ _ _ _ _ _ _ _ _ _ _ _ _ _ _ _ _ ⟨vl1, h1, In1, Sc1, P1, A1⟩
    · have hv := hisv.1 rfl
      obtain ⟨a, rfl⟩ : ∃ a : Nat, at_ = a + 1 := ⟨(at_ - 1).toNat, by omega⟩
      have hak : a < k := by omega
      clear hisv
      obtain ⟨S', y', hr⟩ : ∃ S' y', roomL y Sc1 a y = (S', y') := ⟨_, _, rfl⟩
      obtain ⟨b1, b2, b3, b4⟩ := bump_play h1 P1.ok P1.ord (by rw [HSk.out]; exact hak) y S' y' (by rw [A1.S]; exact hr)
      have hm0 : ∀ j, Sc1.getD j 0 ≤ 4611686018427387904 := fun j => by have := P1.ok.sc_le j; unfold Hp.sc Hp.most at this; rw [A1.S] at this; exact this
      go_wp2_with fail
      refine (Bump_any P1.H P1.ok a (by rw [HSk.out]; exact hak) y q3 _ _ rfl rfl).mono ?_
      rintro e w2 ⟨rfl, H2, _, O2⟩
      have P2 := P1.heap H2 b1 b2 O2 (fun i hi => .inl hi)
      have o2 := o1.only O2 o1.foot
      have Hr := Lib.hid hr
      clear r0 r1 r2 P1 o1 H2 O2 hr
      have r1 := o2.c1
      have r2 := o2.c2
      have HB3 := Lib.hid b3
      clear b3
      go_wp2_with fail
      go_loopw [13] (fun v wr => ∃ (y1 : Nat) (S1 : List Nat), v = .int .u64 y1 ∧ y1 < 18446744073709551616 ∧ PlayAt w wr b vl1 va vs gi gs k (h1.bump a y) In1 S1 ∧ OpAt w wr b vl1 va vs gi gs g 0 ((a : Int) + 1) y ∧ (∀ j, S1.getD j 0 ≤ 4611686018427387904) ∧ roomL y Sc1 a y = roomL y1 S1 a y1) (fun v _ => (intOf v).toNat)
      case atStart => exact ⟨y, Sc1, rfl, q3, P2, o2, hm0, rfl⟩
      case round =>
        clear r1 r2 P2 o2 hm0
        obtain ⟨y1, S1, rfl, hy1, P3, o3, hall, hR⟩ := hrel
        have r1 := o3.c1
        have hm := hall a
        rw [roomL_eq S1 a y1 (by unfold Hp.most; exact hm)] at hR
        unfold Hp.most at hR
        by_cases c1 : 4611686018427387904 < y1
        · simp only [c1, decide_true, Bool.true_or, if_true] at hR
          have HR := Lib.hid hR
          clear hR
          have hsmall : ∀ j, (S1 : List Nat).getD j 0 ≤ 18446744073709551615 := fun j => by have := hall j; omega
          have hall2 : ∀ j, ((S1 : List Nat).map (· / 2)).getD j 0 ≤ 4611686018427387904 := fun j => by rw [getD_half]; have := hall j; omega
          have hcS := P3.cellS hak
          generalize hq0 : (S1 : List Nat).getD a 0 = q0 at *
          have HQ0 := Lib.hid hq0
          clear hq0
          go_wp2_with fail
          clear hcS
          go_loopw [102] (fun v wr => ∃ j : Nat, v = .int .i64 j ∧ j ≤ k ∧ PlayAt w wr b vl1 va vs gi gs k (h1.bump a y) In1 (halfTo j S1) ∧ OpAt w wr b vl1 va vs gi gs g 0 ((a : Int) + 1) y) (fun v _ => k - (intOf v).toNat)
          case atStart => exact ⟨0, rfl, Nat.zero_le _, by rw [halfTo_zero]; exact P3, o3⟩
          case round =>
            obtain ⟨j, rfl, hj, P4, o4⟩ := hrel
            by_cases cj : j < k
            · have hjS : j < (S1 : List Nat).length := by have := P4.scl; rw [halfTo_len] at this; omega
              have hcell := P4.cellS cj
              rw [halfTo_get hjS] at hcell
              have hff := P4.rs.frozenAt j
              have P5 := P4.setSc j ((S1 : List Nat).getD j 0 / 2)
              rw [halfTo_succ hjS] at P5
              have hbd : (S1 : List Nat).getD j 0 ≤ 18446744073709551615 := hsmall j
              have HP5 := Lib.hid P5
              clear P5
              generalize (S1 : List Nat).getD j 0 = q at *
              go_wp2_with fail
              go_roundw
              case rel => exact ⟨j + 1, by go_num, by omega, HP5.out, o4.setS j _⟩
              case measure => simp [intOf]; omega
            · have hj' : j = (S1 : List Nat).length := by have := P4.scl; rw [halfTo_len] at this; omega
              rw [hj', halfTo_all] at P4
              clear hj'
              go_wp2_with fail
              go_roundw
              case rel => exact ⟨y1 / 2, _, by go_num, by omega, P4, o4, hall2, HR.out⟩
              case measure => simp [intOf]; omega
        · by_cases c2 : 4611686018427387904 < S1.getD a 0 + y1
          · simp only [c2, decide_true, Bool.or_true, if_true] at hR
            have HR := Lib.hid hR
            clear hR
            have hsmall : ∀ j, (S1 : List Nat).getD j 0 ≤ 18446744073709551615 := fun j => by have := hall j; omega
            have hall2 : ∀ j, ((S1 : List Nat).map (· / 2)).getD j 0 ≤ 4611686018427387904 := fun j => by rw [getD_half]; have := hall j; omega
            have hcS := P3.cellS hak
            generalize hq0 : (S1 : List Nat).getD a 0 = q0 at *
            have HQ0 := Lib.hid hq0
            clear hq0
            go_wp2_with fail
            clear hcS
            go_loopw [102] (fun v wr => ∃ j : Nat, v = .int .i64 j ∧ j ≤ k ∧ PlayAt w wr b vl1 va vs gi gs k (h1.bump a y) In1 (halfTo j S1) ∧ OpAt w wr b vl1 va vs gi gs g 0 ((a : Int) + 1) y) (fun v _ => k - (intOf v).toNat)
            case atStart => exact ⟨0, rfl, Nat.zero_le _, by rw [halfTo_zero]; exact P3, o3⟩
            case round =>
              obtain ⟨j, rfl, hj, P4, o4⟩ := hrel
              by_cases cj : j < k
              · have hjS : j < (S1 : List Nat).length := by have := P4.scl; rw [halfTo_len] at this; omega
                have hcell := P4.cellS cj
                rw [halfTo_get hjS] at hcell
                have hff := P4.rs.frozenAt j
                have P5 := P4.setSc j ((S1 : List Nat).getD j 0 / 2)
                rw [halfTo_succ hjS] at P5
                have hbd : (S1 : List Nat).getD j 0 ≤ 18446744073709551615 := hsmall j
                have HP5 := Lib.hid P5
                clear P5
                generalize (S1 : List Nat).getD j 0 = q at *
                go_wp2_with fail
                go_roundw
                case rel => exact ⟨j + 1, by go_num, by omega, HP5.out, o4.setS j _⟩
                case measure => simp [intOf]; omega
              · have hj' : j = (S1 : List Nat).length := by have := P4.scl; rw [halfTo_len] at this; omega
                rw [hj', halfTo_all] at P4
                clear hj'
                go_wp2_with fail
                go_roundw
                case rel => exact ⟨y1 / 2, _, by go_num, by omega, P4, o4, hall2, HR.out⟩
                case measure => simp [intOf]; omega
          · simp only [c1, c2, decide_false, Bool.or_self, Bool.false_eq_true, if_false] at hR
            have hf := P3.rs.frozenAt a
            have hcS := P3.cellS hak
            have P4 := P3.setSc a (S1.getD a 0 + y1)
            rw [Hr.out] at hR
            simp only [Prod.mk.injEq] at hR
            obtain ⟨e1, e2⟩ := hR
            subst e1 e2
            have A4 : Agree k (h1.bump a y) In1 (S'.set a (S'.getD a 0 + y')) := ⟨HB3.out, fun c hc => (b4 c).trans (A1.has c hc)⟩
            have HP4 := Lib.hid P4
            have HA4 := Lib.hid A4
            clear P4 A4
            generalize S'.getD a 0 = q0 at *
            go_wp2_with fail
            refine HQ.out _ _ _ _ _ _ _ _ _ _ _ _ _ _ _ _ _ _ _ _ _ _ _ _ _ _ _ _ _ _ _ _ _ _ _ _ _ _ _ _ _ _ _ _ _ _ _ _ _ _ _ _ _ _ _ _ _ _ _ _ _ _ _ _ _ _ _ _ _ _ _ _ _ _ _ _ _ _ _ _ _ _ _ _ _ _ _ _ _ _ _ _ _ _ _ _ _ _ _ _ _ _ _ _ _ ⟨vl1, _, In1, _, ?_, HA4.out⟩
            have := HP4.out
            simp only [cS, Int.natCast_add] at this
            exact this
  · have k0' : (kd == 0) = false := beq_eq_false_iff_ne.2 k0
    by_cases k1 : kd = 1
    · subst k1
      have hm0 : ∀ j, Sc1.getD j 0 ≤ 4611686018427387904 := fun j => by have := P1.ok.sc_le j; unfold Hp.sc Hp.most at this; rw [A1.S] at this; exact this
      have hsmall : ∀ j, Sc1.getD j 0 ≤ 18446744073709551615 := fun j => by have := hm0 j; omega
      go_wp2_with fail
      refine (Halve_any P1.H P1.ok).mono ?_
      rintro e w2 ⟨rfl, H2, ok2, O2⟩
      have P2 := P1.heap H2 ok2 (Hp.halve_all h1 P1.ok).2.1 O2 (fun i hi => .inl hi)
      go_wp2_with fail
      go_loopw [129] (fun v wr => ∃ j : Nat, v = .int .i64 j ∧ j ≤ k ∧ PlayAt w wr b vl1 va vs gi gs k h1.halve In1 (halfTo j Sc1)) (fun v _ => k - (intOf v).toNat)
      case atStart => exact ⟨0, rfl, Nat.zero_le _, by rw [halfTo_zero]; exact P2⟩
      case round =>
        obtain ⟨j, rfl, hj, P4⟩ := hrel
        by_cases cj : j < k
        · have hjS : j < (Sc1 : List Nat).length := by have := P4.scl; rw [halfTo_len] at this; omega
          have hcell := P4.cellS cj
          rw [halfTo_get hjS] at hcell
          have hff := P4.rs.frozenAt j
          have P5 := P4.setSc j ((Sc1 : List Nat).getD j 0 / 2)
          rw [halfTo_succ hjS] at P5
          have hbd : (Sc1 : List Nat).getD j 0 ≤ 18446744073709551615 := hsmall j
          have HP5 := Lib.hid P5
          clear P5
          generalize (Sc1 : List Nat).getD j 0 = q at *
          go_wp2_with fail
          go_roundw
          case rel => exact ⟨j + 1, by go_num, by omega, HP5.out⟩
          case measure => simp [intOf]; omega
        · have hj' : j = (Sc1 : List Nat).length := by have := P4.scl; rw [halfTo_len] at this; omega
          rw [hj', halfTo_all] at P4
          clear hj'
          go_wp2_with fail
          refine HQ.out _ _ _ _ _ _ _ _ _ _ _ _ _ _ _ _ _ _ _ _ _ _ _ _ _ _ _ _ _ _ _ _ _ _ _ _ _ _ _ _ _ _ _ _ _ _ _ _ _ _ _ _ _ _ _ _ _ _ _ _ _ _ _ _ _ _ _ _ _ _ _ _ _ _ _ _ _ _ _ _ _ _ _ _ _ _ _ _ _ _ _ _ _ _ _ _ _ _ _ _ _ _ _ _ _ ⟨vl1, _, In1, _, P4, by rw [Hp.halve_S, A1.S], fun a ha => ?_⟩
          rw [(Hp.halve_all h1 P1.ok).2.2]
          exact A1.has a ha
    · have k1' : (kd == 1) = false := beq_eq_false_iff_ne.2 k1
      by_cases k2 : kd = 2
      · subst k2
        cases isv
        · have hno : at_ < 1 ∨ (h1.S.length : Int) < at_ := by
            rw [HSk.out]
            have := mt hisv.2 (by simp)
            omega
          have HNO := Lib.hid hno
          clear hno hisv
          go_wp2_with fail
          refine (Push_no P1.H P1.ok _ HNO.out).mono ?_
          rintro e w2 ⟨rfl, rfl⟩
          go_wp2_with fail
          refine HQ.out _ _ _ _ _ _ _ _ _ _ _ _ _ _ _ _ _ _ _ _ _ _ _ _ _ _ _ _ _ _ _ _ _ _ _ _ _ _ _ _ _ _ _ _ _ _ _ _ _ _ _ _ _ _ _ _ _ _ _ _ _ _ _ _ _ _ _ _ _ _ _ _ _ _ _ _ _ _ _ _ _ _ _ _ _ _ _ _ _ _ _ _ _ _ _ _ _ _ _ _ _ _ _ _ _ ⟨vl1, h1, In1, Sc1, P1, A1⟩
        · have hv := hisv.1 rfl
          obtain ⟨a, rfl⟩ : ∃ a : Nat, at_ = a + 1 := ⟨(at_ - 1).toNat, by omega⟩
          have hak : a < k := by omega
          have haS : a < h1.S.length := by rw [HSk.out]; exact hak
          clear hisv
          have hci := P1.cellI hak
          cases hin : In1.getD a false
          · rw [hin] at hci
            have hnh : ¬ h1.has a := fun hh => by have := (A1.has a hak).1 hh; rw [hin] at this; cases this
            have hA := (Hp.A_neg P1.ok haS).2 hnh
            obtain ⟨p1, p2, p3, p4, p5⟩ := Hp.push_all h1 P1.ok P1.ord haS hA
            have HIN := Lib.hid hin
            clear hin
            go_wp2_with fail
            refine (Push_any P1.H P1.ok a haS _ rfl hA).mono ?_
            rintro e w2 ⟨rfl, ⟨vl2, H2, F2⟩, _, O2⟩
            have P2 := P1.heap H2 p1 p2 O2 F2
            have o2 := o1.only O2 o1.foot
            clear r0 r1 r2 hci
            have r1 := o2.c1
            have hci := P2.cellI hak
            rw [HIN.out] at hci
            have hfi := P2.ri.frozenAt a
            have P3 := P2.setIn a true
            go_wp2_with fail
            refine HQ.out _ _ _ _ _ _ _ _ _ _ _ _ _ _ _ _ _ _ _ _ _ _ _ _ _ _ _ _ _ _ _ _ _ _ _ _ _ _ _ _ _ _ _ _ _ _ _ _ _ _ _ _ _ _ _ _ _ _ _ _ _ _ _ _ _ _ _ _ _ _ _ _ _ _ _ _ _ _ _ _ _ _ _ _ _ _ _ _ _ _ _ _ _ _ _ _ _ _ _ _ _ _ _ _ _ ⟨vl2, _, _, Sc1, P3, p3.trans A1.S, fun c hc => ?_⟩
            rw [p5, A1.has c hc, Hp.getD_set _ _ _ _ _ (by rw [P1.inl]; exact hak)]
            by_cases e : a = c
            · subst e; simp
            · rw [if_neg e]; exact ⟨fun hh => hh.resolve_right (fun e' => e e'.symm), .inl⟩
          · rw [hin] at hci
            have hhas := (A1.has a hak).2 hin
            have hA : 0 ≤ h1.A.getD a 0 := by
              have := mt (Hp.A_neg P1.ok haS).1 (fun hh => hh hhas)
              omega
            have HIN := Lib.hid hin
            clear hin
            have hfi := P1.ri.frozenAt a
            have P3 := P1.setIn a true
            go_wp2_with fail
            refine (Push_has P1.H P1.ok a haS _ rfl hA).mono ?_
            rintro e w2 ⟨rfl, rfl⟩
            go_wp2_with fail
            refine HQ.out _ _ _ _ _ _ _ _ _ _ _ _ _ _ _ _ _ _ _ _ _ _ _ _ _ _ _ _ _ _ _ _ _ _ _ _ _ _ _ _ _ _ _ _ _ _ _ _ _ _ _ _ _ _ _ _ _ _ _ _ _ _ _ _ _ _ _ _ _ _ _ _ _ _ _ _ _ _ _ _ _ _ _ _ _ _ _ _ _ _ _ _ _ _ _ _ _ _ _ _ _ _ _ _ _ ⟨vl1, _, _, Sc1, P3, A1.S, fun c hc => ?_⟩
            rw [A1.has c hc, Hp.getD_set _ _ _ _ _ (by rw [P1.inl]; exact hak)]
            by_cases e : a = c
            · subst e; rw [if_pos rfl, HIN.out]
            · rw [if_neg e]
      · have k2' : (kd == 2) = false := beq_eq_false_iff_ne.2 k2
        go_wp2_with fail
        refine (first_any (by omega) P1.inl P1.scl P1.ri P1.rs).mono ?_
        rintro e w2 ⟨fa, hF, rfl, m, rfl⟩
        have P2 := P1.drewN m
        rw [← A1.S] at hF
        have hpf := pop_first P1.ok P1.ord HSk.out A1.has hF
        cases fa with
        | none =>
          simp only at hpf
          simp only [zOf]
          have HPF := Lib.hid hpf
          clear hpf
          go_wp2_with fail
          refine (Pop_none P2.H HPF.out).mono ?_
          rintro e w3 ⟨rfl, rfl⟩
          go_wp2_with fail
          refine HQ.out _ _ _ _ _ _ _ _ _ _ _ _ _ _ _ _ _ _ _ _ _ _ _ _ _ _ _ _ _ _ _ _ _ _ _ _ _ _ _ _ _ _ _ _ _ _ _ _ _ _ _ _ _ _ _ _ _ _ _ _ _ _ _ _ _ _ _ _ _ _ _ _ _ _ _ _ _ _ _ _ _ _ _ _ _ _ _ _ _ _ _ _ _ _ _ _ _ _ _ _ _ _ _ _ _ ⟨vl1, h1, In1, Sc1, P2, A1⟩
        | some a =>
          simp only at hpf
          simp only [zOf]
          obtain ⟨hL, hat⟩ := hpf
          have hak : a < k := hF.1
          obtain ⟨p1, p2, p3, p4, p5, p6, p7, p8⟩ := Hp.pop_all h1 P1.ok P1.ord hL
          rw [hat] at p5
          have HAT := Lib.hid hat
          clear hat
          go_wp2_with fail
          refine (Pop_at P2.H P2.ok hL ((a : Int) + 1) (by rw [HAT.out])).mono ?_
          rintro e w3 ⟨rfl, ⟨vl3, H3, F3⟩, _, O3⟩
          have P3 := P2.heap H3 p1 p2 O3 (fun i hi => .inl (F3 i hi))
          have hci := P3.cellI hak
          have hfi := P3.ri.frozenAt a
          have P4 := P3.setIn a false
          clear r0 r1 r2
          generalize In1.getD a false = x0 at hci
          go_wp2_with fail
          refine HQ.out _ _ _ _ _ _ _ _ _ _ _ _ _ _ _ _ _ _ _ _ _ _ _ _ _ _ _ _ _ _ _ _ _ _ _ _ _ _ _ _ _ _ _ _ _ _ _ _ _ _ _ _ _ _ _ _ _ _ _ _ _ _ _ _ _ _ _ _ _ _ _ _ _ _ _ _ _ _ _ _ _ _ _ _ _ _ _ _ _ _ _ _ _ _ _ _ _ _ _ _ _ _ _ _ _ ⟨vl3, _, _, Sc1, P4, p3.trans A1.S, fun c hc => ?_⟩
          rw [p5, A1.has c hc, Hp.getD_set _ _ _ _ _ (by rw [P1.inl]; exact hak)]
          by_cases e : a = c
          · subst e; simp
          · rw [if_neg e]; exact ⟨fun hh => hh.1, fun hh => ⟨hh, fun e' => e e'.symm⟩⟩

end Go.Proofs.Ytgbdmembacjooaa

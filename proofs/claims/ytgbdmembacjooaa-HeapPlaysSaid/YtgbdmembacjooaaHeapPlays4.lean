/- HeapPlays: a round of the law's loop. -/
import Derived.Test.YtgbdmembacjooaaHeapPlays3
namespace Go.Proofs.Ytgbdmembacjooaa
open Go.RowKit

/-- What holds at the head of each round: the frame, and what is known of the heap. -/
structure PlaysInv (w : World) (b : Nat) (va vs : Value) (gi gs k : Nat) (ao : Option Addr) (len cap : Nat) (i : Nat) (a : Act) (wr : World) : Prop where
  d : a.defers = []
  n : a.tmps.size = 211
  s5 : a.tmps.getD 5 undef = .pointer (some ⟨b, 0, none⟩)
  s6 : a.tmps.getD 6 undef = .int .i64 (k : Int)
  s7 : a.tmps.getD 7 undef = .slice (some ⟨gi, 0, none⟩) k k
  s8 : a.tmps.getD 8 undef = .slice (some ⟨gs, 0, none⟩) k k
  s45 : a.tmps.getD 45 undef = .slice ao len cap
  s46 : a.tmps.getD 46 undef = .int .i64 (len : Int)
  s47 : a.tmps.getD 47 undef = .int .i64 (i : Int)
  le : i ≤ len
  play : PlayPost w b va vs gi gs k wr

set_option maxHeartbeats 64000000 in
set_option maxRecDepth 1000000 in
theorem plays_round {s0 s1 s2 s3 s4 s9 s10 s11 s12 s13 s14 s15 s16 s17 s18 s19 s20 s21 s22 s23 s24 s25 s26 s27 s28 s29 s30 s31 s32 s33 s34 s35 s36 s37 s38 s39 s40 s41 s42 s43 s44 s48 s49 s50 s51 s52 s53 s54 s55 s56 s57 s58 s59 s60 s61 s62 s63 s64 s65 s66 s67 s68 s69 s70 s71 s72 s73 s74 s75 s76 s77 s78 s79 s80 s81 s82 s83 s84 s85 s86 s87 s88 s89 s90 s91 s92 s93 s94 s95 s96 s97 s98 s99 s100 s101 s102 s103 s104 s105 s106 s107 s108 s109 s110 s111 s112 s113 s114 s115 s116 s117 s118 s119 s120 s121 s122 s123 s124 s125 s126 s127 s128 s129 s130 s131 s132 s133 s134 s135 s136 s137 s138 s139 s140 s141 s142 s143 s144 s145 s146 s147 s148 s149 s150 s151 s152 s153 s154 s155 s156 s157 s158 s159 s160 s161 s162 s163 s164 s165 s166 s167 s168 s169 s170 s171 s172 s173 s174 s175 s176 s177 s178 s179 s180 s181 s182 s183 s184 s185 s186 s187 s188 s189 s190 s191 s192 s193 s194 s195 s196 s197 s198 s199 s200 s201 s202 s203 s204 s205 s206 s207 s208 s209 s210 : Value} {w wr : World} {b k gi gs len cap i : Nat} {ao : Option Addr} {f : Nat → Int × Int × Nat} {va vs : Value} {Q : Exit → Act → World → Prop}
    (hk2 : k ≤ 300) (hI : OpsAt w ao len f) (hi : i ≤ len) (hPP : PlayPost w b va vs gi gs k wr)
    (hQ : ∀ a' w', PlaysInv w b va vs gi gs k ao len cap len a' w' → Q (.exit 2) a' w') :
    playsRound.wp Try.prog (Exit.then (fun a' w' => (∃ i', PlaysInv w b va vs gi gs k ao len cap i' a' w') ∧ len - (intOf (a'.tmps.getD 47 undef)).toNat < len - (intOf (.int .i64 (i : Int))).toNat) Q) ⟨#[s0, s1, s2, s3, s4, (.pointer (some ⟨b, 0, none⟩)), (.int .i64 (k : Int)), (.slice (some ⟨gi, 0, none⟩) k k), (.slice (some ⟨gs, 0, none⟩) k k), s9, s10, s11, s12, s13, s14, s15, s16, s17, s18, s19, s20, s21, s22, s23, s24, s25, s26, s27, s28, s29, s30, s31, s32, s33, s34, s35, s36, s37, s38, s39, s40, s41, s42, s43, s44, (.slice ao len cap), (.int .i64 (len : Int)), (.int .i64 (i : Int)), s48, s49, s50, s51, s52, s53, s54, s55, s56, s57, s58, s59, s60, s61, s62, s63, s64, s65, s66, s67, s68, s69, s70, s71, s72, s73, s74, s75, s76, s77, s78, s79, s80, s81, s82, s83, s84, s85, s86, s87, s88, s89, s90, s91, s92, s93, s94, s95, s96, s97, s98, s99, s100, s101, s102, s103, s104, s105, s106, s107, s108, s109, s110, s111, s112, s113, s114, s115, s116, s117, s118, s119, s120, s121, s122, s123, s124, s125, s126, s127, s128, s129, s130, s131, s132, s133, s134, s135, s136, s137, s138, s139, s140, s141, s142, s143, s144, s145, s146, s147, s148, s149, s150, s151, s152, s153, s154, s155, s156, s157, s158, s159, s160, s161, s162, s163, s164, s165, s166, s167, s168, s169, s170, s171, s172, s173, s174, s175, s176, s177, s178, s179, s180, s181, s182, s183, s184, s185, s186, s187, s188, s189, s190, s191, s192, s193, s194, s195, s196, s197, s198, s199, s200, s201, s202, s203, s204, s205, s206, s207, s208, s209, s210], []⟩ wr := by
  have hm := hI.1
  have HQ := Lib.hid hQ
  clear hQ
  obtain ⟨vl1, h1, In1, Sc1, P1, A1⟩ := hPP
  conv => arg 2; whnf
  by_cases c : i < len
  · obtain ⟨bb, off, rfl, hbb, hc⟩ := hI.2 (by omega)
    obtain ⟨q0, q1, q2, q3⟩ := hc i c
    rw [← World.cell?_of_block (w := w) (P1.only.block bb hbb (fun f => f))] at q0 q1 q2
    clear hc
    generalize (f i).1 = kd at *
    generalize (f i).2.1 = at_ at *
    generalize (f i).2.2 = y at *
    go_upto_region 13 with fail
    go_cut [11] from 49 to 50 (fun v wx => ∃ g, v = .pointer (some ⟨g, 0, none⟩) ∧ PlayAt w wx b vl1 va vs gi gs k h1 In1 Sc1 ∧ OpAt w wx b vl1 va vs gi gs g kd at_ y)
    case first =>
      go_wp2_with fail
      go_meet
      refine ⟨_, rfl, P1.alloc _, heap_alloc_new _ _, P1.only.size, fun hh => ?_, ?_, ?_⟩
      · have := P1.H.lt hh; omega
      · have := own_lt P1.ri (k := gi) rfl; omega
      · have := own_lt P1.rs (k := gs) rfl; omega
    case rest =>
      clear P1 q0 q1 q2
      obtain ⟨g, rfl, P1, o1⟩ := hcut
      have r0 := o1.c0
      have r1 := o1.c1
      go_upto_region 14 with fail
      go_cut [12] from 51 to 59 (fun v wx => ∃ isv : Bool, v = .bool isv ∧ (isv = true ↔ 1 ≤ at_ ∧ at_ ≤ k) ∧ wx = wc)
      case first =>
        by_cases e1 : 1 ≤ at_
        · go_wp2_with fail
          go_meet
          exact ⟨_, rfl, by simp [e1], rfl⟩
        · go_wp2_with fail
          go_meet
          exact ⟨_, rfl, by simp; omega, rfl⟩
      case rest =>
        obtain ⟨isv, rfl, hisv, rfl⟩ := hcut
        have HIS := Lib.hid hisv
        clear hisv
        go_upto_block 4 with fail
        refine plays_switch hk2 q3 HIS.out P1 A1 o1 ?_
        intro t13 t14 t15 t16 t62 t63 t64 t65 t66 t67 t68 t69 t70 t71 t72 t73 t74 t75 t76 t77 t78 t79 t80 t81 t82 t83 t84 t85 t86 t87 t88 t89 t90 t91 t92 t93 t94 t95 t96 t97 t98 t99 t100 t101 t102 t103 t104 t105 t106 t107 t108 t109 t110 t111 t112 t113 t114 t115 t116 t117 t118 t119 t120 t121 t122 t123 t124 t125 t126 t127 t128 t129 t130 t131 t132 t133 t134 t135 t136 t137 t138 t139 t140 t141 t142 t143 t144 t145 t146 t147 t148 t149 t150 t151 t152 t153 t154 t155 t156 t157 t158 t159 t160 t161 wx hP
        clear P1 A1 o1 r0 r1 HIS
        obtain ⟨vl2, h2, In2, Sc2, P2, A2⟩ := hP
        go_wp2_with fail
        go_loopw [17, 164] (fun vc v wr => ∃ j : Nat, v = .int .i64 j ∧ vc = .int .i64 (cnt In2 j) ∧ j ≤ k ∧ PlayAt w wr b vl2 va vs gi gs k h2 In2 Sc2) (fun _ v _ => k - (intOf v).toNat)
        case atStart => exact ⟨0, rfl, rfl, Nat.zero_le _, P2⟩
        case round =>
          clear P2
          obtain ⟨j, rfl, rfl, hj, P2⟩ := hrel
          have hcl := cnt_le In2 j
          have hSk : h2.S.length = k := by rw [A2.S]; exact P2.scl
          have HSk := Lib.hid hSk
          clear hSk
          by_cases cj : j < k
          · have hjS : j < h2.S.length := by rw [HSk.out]; exact cj
            have hci := P2.cellI cj
            have hcs := P2.cellS cj
            have hcn := cnt_succ In2 j
            have hhas : decide (0 ≤ h2.A.getD j 0) = In2.getD j false := by
              have h1 := A2.has j cj
              have h2 := Hp.A_neg P2.ok hjS
              cases hin : In2.getD j false
              · rw [hin] at h1
                exact decide_eq_false (by have := h2.2 (fun hh => by have := h1.1 hh; cases this); omega)
              · rw [hin] at h1
                exact decide_eq_true (by have := mt h2.1 (fun hh => hh (h1.2 rfl)); omega)
            have hsc : h2.sc j = Sc2.getD j 0 := by unfold Hp.sc; rw [A2.S]
            have w1 : IntKind.i64.wrap ((j : Int) + 1) = (j : Int) + 1 := IntWalk.i64_in _ (by omega)
            have cj' : (j : Int) < (k : Int) := by omega
            have HHAS := Lib.hid hhas
            have HSC := Lib.hid hsc
            have HCN := Lib.hid hcn
            clear hhas hsc hcn
            generalize Sc2.getD j 0 = sj at *
            cases hx : In2.getD j false
            · rw [hx] at hci HHAS HCN
              clear hx
              go_wp2_with fail
              go_quiet (first
                | (go_at_call 15; exact Calls.quiet_of_same ((Has_at (P2.H.drewN _) P2.ok j hjS _ rfl _ HHAS.out).mono fun _ _ hh => ⟨hh.1, hh.2.symm⟩))
                | (go_at_call 16; exact Calls.quiet_of_same ((Score_at (P2.H.drewN _) P2.ok j hjS _ rfl _ HSC.out).mono fun _ _ hh => ⟨hh.1, hh.2.symm⟩)))
              go_wp2_with fail
              go_roundw
              case rel => exact ⟨j + 1, by go_num, by rw [HCN.out]; rfl, by omega, P2.drewN _⟩
              case measure => simp [intOf]; omega
            · rw [hx] at hci HHAS HCN
              clear hx
              go_wp2_with fail
              go_quiet (first
                | (go_at_call 15; exact Calls.quiet_of_same ((Has_at (P2.H.drewN _) P2.ok j hjS _ rfl _ HHAS.out).mono fun _ _ hh => ⟨hh.1, hh.2.symm⟩))
                | (go_at_call 16; exact Calls.quiet_of_same ((Score_at (P2.H.drewN _) P2.ok j hjS _ rfl _ HSC.out).mono fun _ _ hh => ⟨hh.1, hh.2.symm⟩)))
              go_wp2_with fail
              go_roundw
              case rel => exact ⟨j + 1, by go_num, by rw [HCN.out]; go_num, by omega, P2.drewN _⟩
              case measure => simp [intOf]; omega
          · have hj' : k = j := by omega
            subst hj'
            have hL := cnt_all P2.ok HSk.out A2.has
            have HL := Lib.hid hL
            clear hL
            generalize hcc : cnt In2 k = cc at *
            clear hcc
            go_wp2_with fail
            refine (Len_at P2.H (cc : Int) (by rw [HL.out])).mono ?_
            rintro e w3 ⟨rfl, rfl⟩
            go_wp2_with fail
            refine (Has_no P2.H P2.ok 0 (.inl (by omega))).mono ?_
            rintro e w3 ⟨rfl, rfl⟩
            go_wp2_with fail
            refine (Has_no P2.H P2.ok _ (.inr (by rw [HSk.out]; omega))).mono ?_
            rintro e w3 ⟨rfl, rfl⟩
            go_wp2_with fail
            refine (Score_no P2.H P2.ok (-1) (.inl (by omega))).mono ?_
            rintro e w3 ⟨rfl, rfl⟩
            go_wp2_with fail
            refine ⟨⟨i + 1, rfl, rfl, rfl, rfl, rfl, rfl, rfl, rfl, ?_, by omega, vl2, h2, In2, Sc2, P2, A2⟩, ?_⟩
            · show Value.int .i64 ((i : Int) + 1) = _
              go_num
            · show len - (intOf (Value.int .i64 ((i : Int) + 1))).toNat < len - (intOf (Value.int .i64 (i : Int))).toNat
              simp only [intOf]
              omega

  · have hi' : i = len := by omega
    subst hi'
    go_wp2_with fail
    exact HQ.out _ _ ⟨rfl, rfl, rfl, rfl, rfl, rfl, rfl, rfl, rfl, Nat.le_refl _, vl1, h1, In1, Sc1, P1, A1⟩

end Go.Proofs.Ytgbdmembacjooaa

/- The walk of cooperlaw18.PropFresh. -/
import Derived.Test.YtjbfgafkjejdjaaPropL2
namespace Go.Proofs.Ytjbfgafkjejdjaa
open Go.RowKit
open Tr

namespace Tr
theorem Has.follow {T T' : Trail} {n : Nat} {css : List (List Int)} {r : Int} (h : Has T n css) (hf : Foll T T' r) : Has T' n css := by
  obtain ⟨i, e, _⟩ := foll_post hf h.inv
  refine ⟨i, e.whole h.whole, by rw [e.n, h.hn], fun f hr => ?_, fun d hd => ?_, by rw [e.len]; exact h.len⟩
  · obtain ⟨d, hd, p⟩ := h.fwd f hr
    obtain ⟨d', hd', q⟩ := e.like d hd
    exact ⟨d', hd', p.trans q⟩
  · obtain ⟨d', hd', q⟩ := e.like' d hd
    obtain ⟨f, hr, p⟩ := h.bwd d' hd'
    exact ⟨f, hr, q.trans p⟩

theorem Has.decX {T : Trail} {n : Nat} {css : List (List Int)} (h : Has T n css) (x : Int) : Has (T.decX x) n css := by
  unfold Trail.decX
  split
  · rename_i hx
    exact ⟨h.inv.decide (is_iff.1 hx.1) hx.2, h.whole, h.hn, h.fwd, h.bwd, h.len⟩
  · exact h

theorem Has.back {T : Trail} {n : Nat} {css : List (List Int)} (h : Has T n css) (x : Int) : Has (T.back x) n css := by
  have hi := h.inv.back x
  unfold Trail.back at hi ⊢
  split
  · rename_i hx
    rw [if_pos hx] at hi
    exact ⟨hi, h.whole, h.hn, h.fwd, h.bwd, h.len⟩
  · exact h

theorem back0 (T : Trail) : (T.back 0).levels = [] := by
  unfold Trail.back
  split
  · show T.levels.take 0 = []; rfl
  · rename_i h
    simpa using h

/-- the clauses by their places -/
def parts (css : List (List Int)) (p : Nat → Bool) (k : Nat) : List (List Int) := ((List.range k).filter p).map fun i => css.getD i []
theorem parts_yes (css : List (List Int)) {p : Nat → Bool} {k : Nat} (h : p k = true) : parts css p (k + 1) = parts css p k ++ [css.getD k []] := by
  unfold parts; rw [List.range_succ, List.filter_append]; simp [h]
theorem parts_no (css : List (List Int)) {p : Nat → Bool} {k : Nat} (h : p k = false) : parts css p (k + 1) = parts css p k := by
  unfold parts; rw [List.range_succ, List.filter_append]; simp [h]
theorem parts_len (css : List (List Int)) (p : Nat → Bool) (k : Nat) : (parts css p k).length ≤ k := by
  unfold parts; rw [List.length_map]; have := List.length_filter_le p (List.range k); simpa using this
theorem parts_both (css : List (List Int)) (m : Nat) (c : List Int) : c ∈ parts css (fun i => i % 3 != m) css.length ++ parts css (fun i => i % 3 == m) css.length ↔ c ∈ css := by
  unfold parts
  simp only [List.mem_append, List.mem_map, List.mem_filter, List.mem_range]
  constructor
  · rintro (⟨i, ⟨hi, _⟩, rfl⟩ | ⟨i, ⟨hi, _⟩, rfl⟩) <;> exact getD_mem' [] hi
  · intro hc
    obtain ⟨i, hi, e⟩ := List.getElem_of_mem hc
    have e2 : css.getD i [] = c := by rw [List.getD_eq_getElem?_getD, List.getElem?_eq_getElem hi]; exact e
    by_cases h : i % 3 = m
    · exact .inr ⟨i, ⟨hi, by simpa using h⟩, e2⟩
    · exact .inl ⟨i, ⟨hi, by simpa using h⟩, e2⟩

/-- both followed, at the level 0 -/
structure Ends (T U : Trail) : Prop where
  it : Inv T
  iu : Inv U
  val : ∀ x, U.val x = T.val x
  lv : T.levels = []
  len : U.lits.length = T.lits.length

theorem fresh_end {T U T' U' : Trail} {n : Nat} {cs ds : List (List Int)} {r s : Int} (h : Has T n cs) (k : Has U n ds) (hs : ∀ c, c ∈ cs ↔ c ∈ ds) (l1 : T.levels = []) (l2 : U.levels = []) (hf : Foll T T' r) (hg : Foll U U' s) :
    (r = -1 ∧ s = -1 ∧ Ends T' U') ∨ (0 ≤ r ∧ 0 ≤ s) := by
  obtain ⟨i1, e1, h1⟩ := foll_law hf h.inv h.whole
  obtain ⟨i2, e2, h2⟩ := foll_law hg k.inv k.whole
  have d1 : T.decs = [] := by unfold Trail.decs; rw [l1]; rfl
  have d2 : U.decs = [] := by unfold Trail.decs; rw [l2]; rfl
  have L1 : Like T.cls U.cls := h.like k fun c hc => (hs c).1 hc
  have L2 : Like U.cls T.cls := k.like h fun c hc => (hs c).2 hc
  have hc : Up.Conf U.decs U.cls ↔ Up.Conf T.decs T.cls := by
    rw [d1, d2]; exact ⟨fun h => conf_like h (fun _ h => h) L2, fun h => conf_like h (fun _ h => h) L1⟩
  have hd : ∀ z, Up.Der U.decs U.cls z ↔ Up.Der T.decs T.cls z := fun z => by
    rw [d1, d2]; exact ⟨fun h => der_like h (fun _ h => h) L2, fun h => der_like h (fun _ h => h) L1⟩
  rcases h1 with ⟨a1, a2, a3⟩ | ⟨a1, a2⟩
  · rcases h2 with ⟨b1, b2, b3⟩ | ⟨b1, b2⟩
    · have hl : ∀ z, z ∈ U'.lits ↔ z ∈ T'.lits := fun z => by rw [b2, a2, hd]
      have nd : ∀ V : Trail, Inv V → V.lits.Nodup := fun V i => (List.pairwise_map.1 i.ok.good.nod).imp (fun h e => h (by rw [e]))
      exact .inl ⟨a1, b1, i1, i2, val_same i1.ok i2.ok hl, by rw [e1.levels, l1], List.Perm.length_eq ((List.perm_ext_iff_of_nodup (nd U' i2) (nd T' i1)).2 hl)⟩
    · exact absurd (hc.1 b2) a3
  · rcases h2 with ⟨b1, b2, b3⟩ | ⟨b1, b2⟩
    · exact absurd (hc.2 a2) b3
    · exact .inr ⟨a1, b1⟩
end Tr

section
variable {w : World}

/-- both trails in the midst of it -/
structure FreA (w : World) (N : Nat) (css ds : List (List Int)) (b c : Nat) (wr : World) (T U : Trail) : Prop where
  two : Two w wr b T c U
  ht : Has T N css
  hu : Has U N ds
  eu : U.ents = [] ∧ U.levels = []

theorem FreA.addX {N : Nat} {css ds : List (List Int)} {b c : Nat} {wr : World} {T U : Trail} (h : FreA w N css ds b c wr T U) (hb : css.length < 2147483648) {v : Value} {xs : List Int} (hI : Ints wr v xs) (hx : xs.length ≤ 17592186043904) :
    Calls Try.prog 34 #[.pointer (some ⟨b, 0, none⟩), v] wr fun e w' => e = .returned (.int .i64 (T.addR xs)) ∧ FreA w N (css ++ [xs]) ds b c w' (T.addX xs) U :=
  (two_Add h.two h.ht.inv (by have := h.ht.len; omega) hI hx).mono fun e w' ⟨he, ht⟩ => ⟨he, ht, h.ht.add hI.range hb, h.hu, h.eu⟩
theorem FreA.addY {N : Nat} {css ds : List (List Int)} {b c : Nat} {wr : World} {T U : Trail} (h : FreA w N css ds b c wr T U) (hb : ds.length < 2147483648) {v : Value} {xs : List Int} (hI : Ints wr v xs) (hx : xs.length ≤ 17592186043904) :
    Calls Try.prog 34 #[.pointer (some ⟨c, 0, none⟩), v] wr fun e w' => e = .returned (.int .i64 (U.addR xs)) ∧ FreA w N css (ds ++ [xs]) b c w' T (U.addX xs) :=
  (two_Add h.two.symm h.hu.inv (by have := h.hu.len; omega) hI hx).mono fun e w' ⟨he, ht⟩ => ⟨he, ht.symm, h.ht, h.hu.add hI.range hb, by rw [(addX_ents U xs).1, (addX_ents U xs).2]; exact h.eu⟩
theorem FreA.dec {N : Nat} {css ds : List (List Int)} {b c : Nat} {wr : World} {T U : Trail} (h : FreA w N css ds b c wr T U) (x : Int) (hx : InI64 x) :
    Calls Try.prog 36 #[.pointer (some ⟨b, 0, none⟩), .int .i64 x] wr fun e w' => e = .returned (.bool (T.decR x)) ∧ FreA w N css ds b c w' (T.decX x) U :=
  (two_Decide h.two h.ht.inv.ok x hx).mono fun e w' ⟨he, ht⟩ => ⟨he, ht, h.ht.decX x, h.hu, h.eu⟩
theorem FreA.follow {N : Nat} {css ds : List (List Int)} {b c : Nat} {wr : World} {T U : Trail} (h : FreA w N css ds b c wr T U) :
    Calls Try.prog 35 #[.pointer (some ⟨b, 0, none⟩)] wr fun e w' => ∃ r T', e = .returned (.int .i64 r) ∧ FreA w N css ds b c w' T' U :=
  (two_Follow h.two h.ht.inv).mono fun e w' ⟨r, T', he, hf, ht⟩ => ⟨r, T', he, ht, h.ht.follow hf, h.hu, h.eu⟩
theorem FreA.back {N : Nat} {css ds : List (List Int)} {b c : Nat} {wr : World} {T U : Trail} (h : FreA w N css ds b c wr T U) :
    Calls Try.prog 40 #[.pointer (some ⟨b, 0, none⟩), .int .i64 0] wr fun e w' => e = .returned (.tuple #[]) ∧ FreA w N css ds b c w' (T.back 0) U :=
  (two_Back h.two h.ht.inv 0 (by unfold InI64; omega)).mono fun e w' ⟨he, ht⟩ => ⟨he, ht, h.ht.back 0, h.hu, h.eu⟩

set_option maxRecDepth 100000 in
set_option maxHeartbeats 3200000 in
theorem PropFresh_walk {z z2 : Int} (hz : 0 ≤ z ∧ z ≤ 255) {vcs vd : Value} {css : List (List Int)} {ls : List Int} (hI : IntsS w vcs css) (hR : ∀ c ∈ css, c.length ≤ 17592186043904) (hD : Ints w vd ls) (hz2 : 0 ≤ z2 ∧ z2 ≤ 255) :
    Calls Try.prog 10 #[.int .u8 z, vcs, vd, .int .u8 z2] w fun e w' => e = .returned (.bool true) ∧ Only (fun _ => False) w w' := by
  obtain ⟨us, hC, hA⟩ := hI
  have hul := hA.1
  obtain ⟨ac, cc, rfl, _, _⟩ := hC.shape
  obtain ⟨ad, cd, rfl, _, _⟩ := hD.shape
  rw [hul] at hC
  by_cases h1 : 100 < css.length
  · have d1 : decide (100 < css.length) = true := decide_eq_true h1
    have d1' : decide ((100 : Int) < (css.length : Int)) = true := decide_eq_true (by omega)
    rw [hul]
    clear hC hA hD hul
    go_enter Try.func10, Try.ntmps10
    go_wp2_with fail
    refine prop_fixed_any.mono ?_
    rintro e w1 ⟨rfl, O1⟩
    go_wp2_with fail
    go_ret
    exact ⟨rfl, O1⟩
  have d1 : decide (100 < css.length) = false := decide_eq_false h1
  have d1' : decide ((100 : Int) < (css.length : Int)) = false := decide_eq_false (by omega)
  rw [hul]
  by_cases h2 : 30 < ls.length
  · have d2 : decide (30 < ls.length) = true := decide_eq_true h2
    have d2' : decide ((30 : Int) < (ls.length : Int)) = true := decide_eq_true (by omega)
    clear hC hA hD hul
    go_enter Try.func10, Try.ntmps10
    go_wp2_with fail
    refine prop_fixed_any.mono ?_
    rintro e w1 ⟨rfl, O1⟩
    go_wp2_with fail
    go_ret
    exact ⟨rfl, O1⟩
  have d2 : decide (30 < ls.length) = false := decide_eq_false h2
  have d2' : decide ((30 : Int) < (ls.length : Int)) = false := decide_eq_false (by omega)
  obtain ⟨N, hN⟩ : ∃ N : Nat, z % 31 = (N : Int) := ⟨(z % 31).toNat, by omega⟩
  obtain ⟨m, hm⟩ : ∃ m : Nat, z2 % 3 = (m : Int) := ⟨(z2 % 3).toNat, by omega⟩
  have hN30 : N ≤ 30 := by omega
  obtain ⟨hz1, hz2'⟩ := hz
  obtain ⟨hz3, hz4⟩ := hz2
  have HUl := Lib.hid hul
  clear hul
  go_enter Try.func10, Try.ntmps10
  go_wp2_with fail
  refine (one_New w (N : Int) (by unfold InI64; omega) N (by omega)).mono ?_
  rintro e w1 ⟨b, rfl, H1⟩
  go_wp2_with fail
  refine (two_New H1 (N : Int) (by unfold InI64; omega) N (by omega)).mono ?_
  rintro e w2 ⟨c, rfl, H2⟩
  have hst : FreA w N (parts css (fun i => i % 3 != m) 0) (css.take 0) b c w2 (Tr.new N) (Tr.new N) := ⟨H2, Has.new (by omega), Has.new (by omega), ⟨rfl, rfl⟩⟩
  have HSt := Lib.hid hst
  clear hst H1 H2 hN
  go_wp2_with fail
  go_loopw [39] (fun v wr => ∃ (k : Nat) (T U : Trail), v = .int .i64 k ∧ k ≤ css.length ∧ FreA w N (parts css (fun i => i % 3 != m) k) (css.take k) b c wr T U) (fun v _ => css.length - (intOf v).toNat)
  case atStart => exact ⟨0, _, _, rfl, Nat.zero_le _, HSt.out⟩
  case round =>
    clear HSt
    obtain ⟨k, T, U, rfl, hk, hO⟩ := hrel
    have HO := Lib.hid hO
    have hOn := hO.two.on
    clear hO
    by_cases ck : k < css.length
    · obtain ⟨bc, oc, rfl, _, hcs⟩ := hC.cells _ _ _ rfl (by rw [HUl.out]; omega)
      have q1w := hcs k (by rw [HUl.out]; exact ck)
      have i1 := hA.2 k ck
      have t1 := take_snocC css [] k ck
      have hpl := parts_len css (fun i => i % 3 != m) k
      obtain ⟨x1, hx1⟩ : ∃ x, css.getD k [] = x := ⟨_, rfl⟩
      rw [hx1] at i1 t1
      obtain ⟨a1, c1, e1, _, _⟩ := i1.shape
      rw [e1] at q1w i1
      have r1 : x1.length ≤ 17592186043904 := by rw [← hx1]; exact hR _ (getD_mem' [] ck)
      have HT1 := Lib.hid t1
      have HI1 := Lib.hid i1
      have HX1 := Lib.hid hx1
      have q1 := cell_keep q1w hOn (fun f => f)
      have hop := HO.out.addY (by simp; omega) (i1.only0 hOn) r1
      have HOp := Lib.hid hop
      have ewk : IntKind.i64.wrap ((k : Int) + 1) = ((k + 1 : Nat) : Int) := by rw [IntWalk.i64_in _ (by omega)]; rfl
      clear hcs t1 hx1 e1 i1 q1w hop
      by_cases h12 : 12 < x1.length
      · have d12 : decide (12 < x1.length) = true := decide_eq_true h12
        go_wp2_with fail
        refine prop_fixed_any.mono ?_
        rintro e w3 ⟨rfl, O3⟩
        go_wp2_with fail
        go_ret
        exact ⟨rfl, hOn.same O3⟩
      · have d12 : decide (12 < x1.length) = false := decide_eq_false h12
        by_cases km : k % 3 = m
        · have e1 : (((k : Int) % 3) != (m : Int)) = false := by rw [bne_eq_false_iff_eq]; omega
          have e2 : (((k : Int) % 3) == (m : Int)) = true := by rw [beq_iff_eq]; omega
          have hp := parts_no css (p := fun i => i % 3 != m) (k := k) (by simpa using km)
          have HP := Lib.hid hp
          clear hp
          go_wp2_with fail
          refine HOp.out.mono ?_
          rintro e w3 ⟨rfl, h3⟩
          rw [← HT1.out] at h3
          rw [← HP.out] at h3
          have H3 := Lib.hid h3
          clear h3 q1 HOp
          go_wp2_with fail
          go_roundw
          case rel => exact ⟨k + 1, _, _, by first | rfl | go_num, by omega, H3.out⟩
          case measure => simp [intOf]; omega
        · have e1 : (((k : Int) % 3) != (m : Int)) = true := by rw [bne_iff_ne]; omega
          have e2 : (((k : Int) % 3) == (m : Int)) = false := by rw [beq_eq_false_iff_ne]; omega
          have hp := parts_yes css (p := fun i => i % 3 != m) (k := k) (by simpa using km)
          rw [HX1.out] at hp
          have HP := Lib.hid hp
          clear hp
          go_wp2_with fail
          refine HOp.out.mono ?_
          rintro e w3 ⟨rfl, h3⟩
          rw [← HT1.out] at h3
          have hop2 := h3.addX (by omega) (HI1.out.only0 h3.two.on) r1
          have HOp2 := Lib.hid hop2
          clear h3 q1 HOp hop2
          go_wp2_with fail
          refine HOp2.out.mono ?_
          rintro e w4 ⟨rfl, h4⟩
          rw [← HP.out] at h4
          have H4 := Lib.hid h4
          clear h4 HOp2
          go_wp2_with fail
          go_roundw
          case rel => exact ⟨k + 1, _, _, by first | rfl | go_num, by omega, H4.out⟩
          case measure => simp [intOf]; omega
    · obtain rfl : k = css.length := by omega
      have hO := HO.out
      rw [List.take_of_length_le (Nat.le_refl _)] at hO
      obtain ⟨cs1, hcs1⟩ : ∃ x, parts css (fun i => i % 3 != m) css.length = x := ⟨_, rfl⟩
      rw [hcs1] at hO
      have HCs1 := Lib.hid hcs1
      have HSt := Lib.hid hO
      have hcl1 : cs1.length ≤ css.length := by rw [← hcs1]; exact parts_len _ _ _
      clear hO HO hcs1
      go_wp2_with fail
      go_loopw [63] (fun v wr => ∃ (k : Nat) (T : Trail), v = .int .i64 k ∧ k ≤ ls.length ∧ FreA w N cs1 css b c wr T U) (fun v _ => ls.length - (intOf v).toNat)
      case atStart => exact ⟨0, _, rfl, Nat.zero_le _, HSt.out⟩
      case round =>
        clear HSt
        obtain ⟨k2, T2, rfl, hk2, hO2⟩ := hrel
        have hOn2 := hO2.two.on
        have HO2 := Lib.hid hO2
        clear hO2
        by_cases ck2 : k2 < ls.length
        · obtain ⟨bd, od, rfl, _, hds⟩ := hD.cells _ _ _ rfl (by omega)
          have q := cell_keep (hds k2 ck2) hOn2 (fun f => f)
          have hx := hD.range' k2
          obtain ⟨x, hxe⟩ : ∃ x, ls.getD k2 0 = x := ⟨_, rfl⟩
          rw [hxe] at q hx
          have ewk : IntKind.i64.wrap ((k2 : Int) + 1) = ((k2 + 1 : Nat) : Int) := by rw [IntWalk.i64_in _ (by omega)]; rfl
          have hop := HO2.out.dec x hx
          have HOp := Lib.hid hop
          clear hds hxe hop
          by_cases ke : k2 % 2 = 0
          · have e1 : (((k2 : Int) % 2) == 0) = true := by rw [beq_iff_eq]; omega
            go_wp2_with fail
            refine HOp.out.mono ?_
            rintro e w3 ⟨rfl, h3⟩
            have hop2 := h3.follow
            have HOp2 := Lib.hid hop2
            clear h3 hop2 q HOp
            go_wp2_with fail
            refine HOp2.out.mono ?_
            rintro e w4 ⟨r, T3, rfl, h4⟩
            have H4 := Lib.hid h4
            clear h4 HOp2
            go_wp2_with fail
            go_roundw
            case rel => exact ⟨k2 + 1, _, by first | rfl | go_num, by omega, H4.out⟩
            case measure => simp [intOf]; omega
          · have e1 : (((k2 : Int) % 2) == 0) = false := by rw [beq_eq_false_iff_ne]; omega
            go_wp2_with fail
            refine HOp.out.mono ?_
            rintro e w3 ⟨rfl, h3⟩
            have H3 := Lib.hid h3
            clear h3 q HOp
            go_wp2_with fail
            go_roundw
            case rel => exact ⟨k2 + 1, _, by first | rfl | go_num, by omega, H3.out⟩
            case measure => simp [intOf]; omega
        · obtain rfl : k2 = ls.length := by omega
          have hst : FreA w N (cs1 ++ parts css (fun i => i % 3 == m) 0) css b c wr T2 U := by simpa [parts] using HO2.out
          have HSt := Lib.hid hst
          clear hst HO2
          go_wp2_with fail
          go_loopw [79] (fun v wr => ∃ (k : Nat) (T : Trail), v = .int .i64 k ∧ k ≤ css.length ∧ FreA w N (cs1 ++ parts css (fun i => i % 3 == m) k) css b c wr T U) (fun v _ => css.length - (intOf v).toNat)
          case atStart => exact ⟨0, _, rfl, Nat.zero_le _, HSt.out⟩
          case round =>
            clear HSt
            obtain ⟨k3, T3, rfl, hk3, hO3⟩ := hrel
            have hOn3 := hO3.two.on
            have HO3 := Lib.hid hO3
            clear hO3
            by_cases ck3 : k3 < css.length
            · obtain ⟨bc, oc, rfl, _, hcs⟩ := hC.cells _ _ _ rfl (by rw [HUl.out]; omega)
              have q1w := hcs k3 (by rw [HUl.out]; exact ck3)
              have i1 := hA.2 k3 ck3
              have hpl := parts_len css (fun i => i % 3 == m) k3
              obtain ⟨x1, hx1⟩ : ∃ x, css.getD k3 [] = x := ⟨_, rfl⟩
              rw [hx1] at i1
              obtain ⟨a1, c1, e1, _, _⟩ := i1.shape
              rw [e1] at q1w i1
              have r1 : x1.length ≤ 17592186043904 := by rw [← hx1]; exact hR _ (getD_mem' [] ck3)
              have HX1 := Lib.hid hx1
              have q1 := cell_keep q1w hOn3 (fun f => f)
              have hop := HO3.out.addX (by simp; omega) (i1.only0 hOn3) r1
              have HOp := Lib.hid hop
              have ewk : IntKind.i64.wrap ((k3 : Int) + 1) = ((k3 + 1 : Nat) : Int) := by rw [IntWalk.i64_in _ (by omega)]; rfl
              clear hcs hx1 e1 i1 q1w hop
              by_cases km : k3 % 3 = m
              · have e1 : (((k3 : Int) % 3) == (m : Int)) = true := by rw [beq_iff_eq]; omega
                have hp := parts_yes css (p := fun i => i % 3 == m) (k := k3) (by simpa using km)
                rw [HX1.out] at hp
                have HP := Lib.hid hp
                clear hp
                go_wp2_with fail
                refine HOp.out.mono ?_
                rintro e w3 ⟨rfl, h3⟩
                rw [List.append_assoc, ← HP.out] at h3
                have H3 := Lib.hid h3
                clear h3 q1 HOp
                go_wp2_with fail
                go_roundw
                case rel => exact ⟨k3 + 1, _, by first | rfl | go_num, by omega, H3.out⟩
                case measure => simp [intOf]; omega
              · have e1 : (((k3 : Int) % 3) == (m : Int)) = false := by rw [beq_eq_false_iff_ne]; omega
                have hp := parts_no css (p := fun i => i % 3 == m) (k := k3) (by simpa using km)
                have h3 := HO3.out
                rw [← hp] at h3
                have H3 := Lib.hid h3
                clear h3 hp HOp
                go_wp2_with fail
                go_roundw
                case rel => exact ⟨k3 + 1, _, by first | rfl | go_num, by omega, H3.out⟩
                case measure => simp [intOf]; omega
            · obtain rfl : k3 = css.length := by omega
              have hsame : ∀ c, c ∈ cs1 ++ parts css (fun i => i % 3 == m) css.length ↔ c ∈ css := fun c => by rw [← HCs1.out]; exact parts_both css m c
              have HSame := Lib.hid hsame
              obtain ⟨ds, hds⟩ : ∃ x, cs1 ++ parts css (fun i => i % 3 == m) css.length = x := ⟨_, rfl⟩
              rw [hds] at HO3 HSame
              have hop := HO3.out.follow
              have HOp := Lib.hid hop
              clear hsame hop hds
              go_wp2_with fail
              refine HOp.out.mono ?_
              rintro e w4 ⟨r4, T4, rfl, h4⟩
              have hop2 := h4.back
              have HOp2 := Lib.hid hop2
              clear hop2 h4 HOp
              go_wp2_with fail
              refine HOp2.out.mono ?_
              rintro e w5 ⟨rfl, h5⟩
              have HL := Lib.hid (back0 T4)
              have HH5 := Lib.hid h5
              have hf1 := two_Follow h5.two h5.ht.inv
              have HF1 := Lib.hid hf1
              clear hf1 h5 HOp2
              go_wp2_with fail
              refine HF1.out.mono ?_
              rintro e w6 ⟨r6, T6, rfl, hf6, h6⟩
              have hf2 := two_Follow h6.symm HH5.out.hu.inv
              have HF2 := Lib.hid hf2
              have HFo6 := Lib.hid hf6
              clear hf6 hf2 h6 HF1
              go_wp2_with fail
              refine HF2.out.mono ?_
              rintro e w7 ⟨s7, U7, rfl, hf7, h7⟩
              have hend := fresh_end HH5.out.ht HH5.out.hu HSame.out HL.out HH5.out.eu.2 HFo6.out hf7
              have HEnd := Lib.hid hend
              have H7 := Lib.hid h7.symm
              have hOn7 := h7.on
              clear hend h7 hf7 HFo6 HF2 HH5 HO3
              rcases HEnd.out with ⟨rfl, rfl, W⟩ | ⟨r0, s0⟩
              · have HW := Lib.hid W
                clear W HEnd
                go_wp2_with fail
                go_loopw [20] (fun v wr => ∃ i : Nat, v = .int .i64 i ∧ 1 ≤ i ∧ i ≤ N + 1 ∧ Two w wr b T6 c U7) (fun v _ => N + 1 - (intOf v).toNat)
                case atStart => exact ⟨1, rfl, Nat.le_refl _, by omega, H7.out⟩
                case round =>
                  clear H7 hOn7
                  obtain ⟨i, rfl, hi1, hi2, h2⟩ := hrel
                  have hOn3 := h2.on
                  have H2 := Lib.hid h2
                  clear h2
                  by_cases ci : i ≤ N
                  · have d3 : decide (i ≤ N) = true := decide_eq_true ci
                    have hxi : InI64 (i : Int) := by unfold InI64; omega
                    obtain ⟨v, hv⟩ : ∃ v, T6.val (i : Int) = v := ⟨_, rfl⟩
                    have hv2 : U7.val (i : Int) = v := by rw [HW.out.val]; exact hv
                    have ewi : IntKind.i64.wrap ((i : Int) + 1) = ((i + 1 : Nat) : Int) := by rw [IntWalk.i64_in _ (by omega)]; rfl
                    have ha3 := one_Value H2.out.one HW.out.it.ok (i : Int) hxi v hv
                    have ha4 := one_Value H2.out.symm.one HW.out.iu.ok (i : Int) hxi v hv2
                    have HA3 := Lib.hid ha3
                    have HA4 := Lib.hid ha4
                    clear ha3 ha4 hv hv2
                    go_wp2_with fail
                    refine HA3.out.mono ?_
                    rintro e w8 ⟨rfl, rfl⟩
                    go_wp2_with fail
                    refine HA4.out.mono ?_
                    rintro e w8 ⟨rfl, rfl⟩
                    go_wp2_with fail
                    go_roundw
                    case rel => exact ⟨i + 1, by first | rfl | go_num, by omega, by omega, H2.out⟩
                    case measure => simp [intOf]; omega
                  · have d3 : decide (i ≤ N) = false := decide_eq_false ci
                    go_wp2_with fail
                    refine prop_fixed_any.mono ?_
                    rintro e w8 ⟨rfl, O8⟩
                    have h8 := H2.out.quiet O8
                    have hlv := one_Level h8.one
                    rw [HW.out.lv] at hlv
                    have HLv := Lib.hid hlv
                    have hl1 := one_List h8.one HW.out.it.ok
                    have HL1 := Lib.hid hl1
                    have H8 := Lib.hid h8
                    clear hl1 h8 hlv
                    go_wp2_with fail
                    refine HLv.out.mono ?_
                    rintro e w9 ⟨rfl, rfl⟩
                    go_wp2_with fail
                    refine HL1.out.mono ?_
                    rintro e w9 ⟨v1, rfl, R1, -, O9⟩
                    obtain ⟨a1, c1, rfl, -, -⟩ := own_slice R1
                    have h9 := H8.out.quiet O9
                    have hl2 := one_List h9.symm.one HW.out.iu.ok
                    rw [HW.out.len] at hl2
                    have HL2 := Lib.hid hl2
                    have H9 := Lib.hid h9
                    clear hl2 h9 R1 HL1
                    go_wp2_with fail
                    refine HL2.out.mono ?_
                    rintro e w10 ⟨v2, rfl, R2, -, O10⟩
                    obtain ⟨a2, c2, rfl, -, -⟩ := own_slice R2
                    have hend : Only (fun _ => False) w w10 := H9.out.on.same O10
                    clear R2 HL2
                    go_wp2_with fail
                    go_ret
                    exact ⟨rfl, hend⟩
              · have dr : decide (0 ≤ r6) = true := decide_eq_true r0
                have ds : decide (0 ≤ s7) = true := decide_eq_true s0
                clear HEnd
                go_wp2_with fail
                refine prop_fixed_any.mono ?_
                rintro e w8 ⟨rfl, O8⟩
                go_wp2_with fail
                go_ret
                exact ⟨rfl, hOn7.same O8⟩
end
end Go.Proofs.Ytjbfgafkjejdjaa

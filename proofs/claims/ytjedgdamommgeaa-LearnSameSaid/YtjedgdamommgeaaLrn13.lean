/- The walks of cooperlaw19.fixed, Great, Run, live; one trail, and package learn. -/
import Derived.Test.YtjedgdamommgeaaLrnP4
import Derived.Test.YtjedgdamommgeaaLrn12
import Derived.Test.YtjedgdamommgeaaRef18
import Derived.Test.YtjedgdamommgeaaOwnS
set_option linter.unusedVariables false
namespace Go.Proofs.Ytjedgdamommgeaa
open Go.RowKit
open Tr

namespace Tr
open Cnf Up

/-- the lesson of the chapter's example -/
theorem ex19_end {T' : Trail} {r : Int} (h : Foll ex19 T' r) : r = 1 ∧ Inv T' ∧ ∃ at_, T'.lesson 1 = some (some ⟨[-1], 0, at_⟩) := by
  obtain ⟨p, h1, h2, h3⟩ := ex19_foll
  have e := follF_eq h 12 p h1
  subst e
  simp only at h2 h3
  subst h2
  obtain ⟨i, ex, hk⟩ := foll_post h ex19_i3
  refine ⟨rfl, i, ?_⟩
  rcases hk with ⟨h4, _⟩ | ⟨k, hk, hlive, hneg⟩
  · omega
  obtain rfl : k = 1 := by omega
  have hw : T'.whole := ex.whole (fun k hk => by
    have : k < 2 := hk
    match k, this with
    | 0, _ => rfl
    | 1, _ => rfl)
  have hD : T'.among [[-1, 2], [-1, -2]] := fun k hk _ => by
    have hk2 : k < 2 := by have := hk.1; rw [ex.len] at this; exact this
    have hp := ex.perm k
    match k, hk2 with
    | 0, _ => exact ⟨[-1, 2], by simp, hp⟩
    | 1, _ => exact ⟨[-1, -2], by simp, hp⟩
  have hlv : ∀ y, -y ∈ T'.lits → T'.lvl y = 1 := fun y hy => by
    obtain ⟨j, hj, e⟩ := lits_at hy
    rw [(at_pos i hj (y := y) (by rw [e]; omega)).1, i.lvl j hj, ex.levels]
    rfl
  obtain ⟨_, hl⟩ := lesson_law i (i.held_of hw) hD hlive hneg
  have hpm := ex.perm 1
  have hm : -1 ∈ formL (T'.cl 1) := (mem_formL _ _).2 (hpm.mem_iff.2 (by show (-1 : Int) ∈ [-1, -2]; simp))
  have hle := (top_fold T' (formL (T'.cl 1)) 0).2.1 _ hm
  rw [hlv (-1) (by rw [h3]; simp)] at hle
  rcases hl with ⟨h0, _⟩ | ⟨_, first, rest, at_, he, W⟩
  · unfold Trail.top at h0; omega
  · have h1 := W.ltop
    rw [hlv first (W.neg first (by simp))] at h1
    have hr : rest = [] := by
      refine List.eq_nil_iff_forall_not_mem.2 fun y hy => ?_
      have h5 := W.lrest y hy
      rw [hlv y (W.neg y (by simp [hy]))] at h5
      omega
    subst hr
    have hf := W.neg first (by simp)
    rw [h3] at hf
    simp only [List.mem_cons, List.not_mem_nil, or_false] at hf
    have h6 : first = -1 := by
      rcases hf with hf | hf
      · omega
      · exfalso
        obtain rfl : first = -2 := by omega
        refine closed (n := 2) (S := [2, -1]) (good_of (by decide) (by decide)) ?_ ?_ W.conf
        · intro x hx; simp at hx; subst hx; simp
        · intro c hc
          simp only [List.mem_cons, List.not_mem_nil, or_false] at hc
          rcases hc with rfl | rfl
          · exact .inl ⟨2, by simp, by simp⟩
          · exact .inl ⟨-1, by simp, by simp⟩
    subst h6
    exact ⟨at_, he⟩

/-- when clauses were added, and literals decided, each followed -/
structure Ran (n : Nat) (css : List (List Int)) (T : Trail) (r : Int) : Prop where
  has : Has T n css
  end_ : (r = -1 ∧ T.short = [] ∧ T.next = T.ents.length) ∨ ∃ k : Nat, r = k ∧ T.live k ∧ ∀ x ∈ T.cl k, -x ∈ T.lits

theorem Has.ran {T T' : Trail} {n : Nat} {css : List (List Int)} {r : Int} (h : Has T n css) (hf : Foll T T' r) : Ran n css T' r :=
  ⟨h.follow hf, (foll_post hf h.inv).2.2⟩
theorem Ran.range {T : Trail} {n : Nat} {css : List (List Int)} {r : Int} (h : Ran n css T r) : -1 ≤ r ∧ r < 2147483648 := by
  rcases h.end_ with ⟨rfl, _⟩ | ⟨k, rfl, hl, _⟩
  · omega
  · have h1 := hl.1
    have h2 := h.has.inv.ok.cb
    omega
end Tr

section
variable {w w0 : World} {b : Nat} {T : Trail}

theorem one_Clause (h : One w0 w b T) (o : Ok T) (k : Int) : Calls Try.prog 15 #[.pointer (some ⟨b, 0, none⟩), .int .i64 k] w (ClaTo w (T.clauseL k)) := by
  obtain ⟨g, V, H, hm, h0⟩ := h
  exact prop_Clause_any H o k
theorem one_Clauses (h : One w0 w b T) : Calls Try.prog 14 #[.pointer (some ⟨b, 0, none⟩)] w fun e w' => e = .returned (cN T.cls.length) ∧ w = w' := by
  obtain ⟨g, V, H, hm, h0⟩ := h
  exact prop_Clauses_any H
theorem one_Levels (h : One w0 w b T) (o : Ok T) {v : Value} {l : List Int} (hI : Ints w v l) (hlen : l.length ≤ 1099511627776) :
    Calls Try.prog 20 #[.pointer (some ⟨b, 0, none⟩), v] w fun e w' => e = .returned (.int .i64 ((T.levs l).length : Int)) ∧ Only (fun _ => False) w w' := by
  obtain ⟨g, V, H, hm, h0⟩ := h
  exact Levels_any H o hI hlen
theorem one_From (h : One w0 w b T) (o : Ok T) (k : Int) : Calls Try.prog 11 #[.pointer (some ⟨b, 0, none⟩), .int .i64 k] w (LesTo w (T.lesson k)) := by
  obtain ⟨g, V, H, hm, h0⟩ := h
  exact From_any H o k
theorem one_Why (h : One w0 w b T) (o : Ok T) (x : Int) (hx : InI64 x) :
    Calls Try.prog 25 #[.pointer (some ⟨b, 0, none⟩), .int .i64 x] w fun e w' => ∃ v, e = .returned v ∧ w'.ownsRow 0 3 1 v (T.whyL x).length ((T.whyL x).map cI) ∧ (∀ k, v.ownBlock = some k → w.heap.size ≤ k) ∧ Only (fun _ => False) w w' := by
  obtain ⟨g, V, H, hm, h0⟩ := h
  exact Why_any H o x hx

/-- more than is gone through? -/
def greatL (css : List (List Int)) (ls : List Int) : Bool := decide (120 < css.length) || decide (40 < ls.length) || css.any fun c => decide (12 < c.length)
theorem greatL_no {css : List (List Int)} {ls : List Int} (h : greatL css ls = false) : css.length ≤ 120 ∧ ls.length ≤ 40 ∧ ∀ c ∈ css, c.length ≤ 12 := by
  unfold greatL at h
  simp only [Bool.or_eq_false_iff, decide_eq_false_iff_not, List.any_eq_false, decide_eq_true_eq] at h
  exact ⟨by omega, by omega, fun c hc => by have := h.2 c hc; omega⟩
theorem any_dropS (p : List Int → Bool) {css : List (List Int)} {k : Nat} (h : k < css.length) : (css.drop k).any p = (p (css.getD k []) || (css.drop (k + 1)).any p) := by
  rw [List.drop_eq_getElem_cons h, List.any_cons]
  simp [List.getD_eq_getElem?_getD, h]

set_option maxHeartbeats 1600000 in
theorem learn_Great_any {vcs vd : Value} {css : List (List Int)} {ls : List Int} (hI : IntsS w vcs css) (hD : Ints w vd ls) (r : Bool) (hr : greatL css ls = r) :
    Calls Try.prog 8 #[vcs, vd] w fun e w' => e = .returned (.bool r) ∧ w = w' := by
  obtain ⟨ac, cc, rfl, _, _⟩ := hI.shape
  obtain ⟨ad, cd, rfl, _, _⟩ := hD.shape
  unfold greatL at hr
  by_cases h1 : 120 < css.length
  · have d1 : decide (120 < css.length) = true := decide_eq_true h1
    have d1' : decide ((120 : Int) < (css.length : Int)) = true := decide_eq_true (by omega)
    rw [d1] at hr
    simp only [Bool.true_or] at hr
    subst hr
    clear hI hD
    go_enter Try.func8, Try.ntmps8
    go_wp2_with fail
    go_ret
    exact ⟨rfl, rfl⟩
  have d1 : decide (120 < css.length) = false := decide_eq_false h1
  have d1' : decide ((120 : Int) < (css.length : Int)) = false := decide_eq_false (by omega)
  rw [d1] at hr
  by_cases h2 : 40 < ls.length
  · have d2 : decide (40 < ls.length) = true := decide_eq_true h2
    have d2' : decide ((40 : Int) < (ls.length : Int)) = true := decide_eq_true (by omega)
    rw [d2] at hr
    simp only [Bool.true_or, Bool.false_or] at hr
    subst hr
    clear hI hD
    go_enter Try.func8, Try.ntmps8
    go_wp2_with fail
    go_ret
    exact ⟨rfl, rfl⟩
  have d2 : decide (40 < ls.length) = false := decide_eq_false h2
  have d2' : decide ((40 : Int) < (ls.length : Int)) = false := decide_eq_false (by omega)
  rw [d2] at hr
  simp only [Bool.false_or] at hr
  have HR := Lib.hid hr
  clear hr hD
  go_enter Try.func8, Try.ntmps8
  go_wp2_with fail
  go_loopw [17] (fun v wr => w = wr ∧ ∃ k : Nat, v = .int .i64 k ∧ k ≤ css.length ∧ ((css.drop k).any fun c => decide (12 < c.length)) = r) (fun v _ => css.length - (intOf v).toNat)
  case atStart => exact ⟨rfl, 0, rfl, Nat.zero_le _, HR.out⟩
  case round =>
    clear HR
    obtain ⟨rfl, k, rfl, hk, hr⟩ := hrel
    by_cases ck : k < css.length
    · obtain ⟨bb, off, u, rfl, _, q, hu⟩ := hI.at ck
      obtain ⟨au, cu, rfl, _, _⟩ := hu.shape
      rw [any_dropS _ ck] at hr
      generalize css.getD k [] = c at *
      by_cases h12 : 12 < c.length
      · have d12 : decide (12 < c.length) = true := decide_eq_true h12
        rw [d12] at hr
        simp only [Bool.true_or] at hr
        subst hr
        go_wp2_with fail
        go_ret
        exact ⟨rfl, rfl⟩
      · have d12 : decide (12 < c.length) = false := decide_eq_false h12
        rw [d12] at hr
        simp only [Bool.false_or] at hr
        have HR := Lib.hid hr
        have ewk : IntKind.i64.wrap ((k : Int) + 1) = ((k + 1 : Nat) : Int) := by rw [IntWalk.i64_in _ (by have := hI.shape; omega)]; rfl
        clear hr
        go_wp2_with fail
        go_roundw
        case rel => exact ⟨by first | rfl | trivial, k + 1, by first | rfl | go_num, by omega, HR.out⟩
        case measure => simp [intOf]; omega
    · obtain rfl : k = css.length := by omega
      rw [List.drop_of_length_le (Nat.le_refl _)] at hr
      simp only [List.any_nil] at hr
      subst hr
      go_wp2_with fail
      go_ret
      exact ⟨rfl, rfl⟩

set_option maxRecDepth 100000 in
set_option maxHeartbeats 1600000 in
theorem learn_fixed_any (w : World) : Calls Try.prog 9 #[] w fun e w' => e = .returned (.bool true) ∧ Only (fun _ => False) w w' := by
  go_enter Try.func9, Try.ntmps9
  go_wp2_with fail
  refine (one_New w 2 (by unfold InI64; omega) 2 (by decide)).mono ?_
  rintro e w1 ⟨b, rfl, H1⟩
  go_wp2_with fail
  refine (one_Add (H1.quiet ((Only.refl _ _).alloc _)) ex19_i0 (by decide) (ints_mk w1 [-1, 2] 3 _ rfl (by simp [InI64]) (by decide)) (by decide)).mono ?_
  rintro e w2 ⟨rfl, H2⟩
  rw [ex19_add1] at H2
  go_wp2_with fail
  refine (one_Add (H2.quiet ((Only.refl _ _).alloc _)) ex19_i1 (by decide) (ints_mk w2 [-1, -2] 3 _ rfl (by simp [InI64]) (by decide)) (by decide)).mono ?_
  rintro e w3 ⟨rfl, H3⟩
  rw [ex19_add2] at H3
  go_wp2_with fail
  refine (one_Decide H3 ex19_i2.ok 1 (by unfold InI64; omega)).mono ?_
  rintro e w4 ⟨rfl, H4⟩
  rw [ex19_dec.1] at H4
  go_wp2_with fail
  refine (one_Follow H4 ex19_i3).mono ?_
  rintro e w5 ⟨r, T', rfl, hf, H5⟩
  obtain ⟨rfl, hi, hl⟩ := ex19_end hf
  obtain ⟨at_, hl⟩ := hl
  have hF := one_From H5 hi.ok 1
  rw [hl] at hF
  have hon := H5.on
  have HF := Lib.hid hF
  clear hl hf hF H4 H3 H2 H1
  go_wp2_with fail
  refine HF.out.mono ?_
  rintro e w6 ⟨O6, vc, va, rfl, R6, R7, N6, -⟩
  obtain ⟨aa, ca, rfl, -, -⟩ := own_slice R7
  have I6 := Ints.of_own (xs := [-1]) R6 (by simp [InI64])
  obtain ⟨av, cv, rfl, -, -⟩ := I6.shape
  have O6' : Only (fun _ => False) w w6 := hon.same O6
  clear R6 R7 N6 O6 HF
  go_wp2_with fail
  refine (Same_any (I6.only0 (((Only.refl _ _).alloc _).alloc _)) (ints_mk (w6.alloc (.cells #[.slice av 1 cv, .int .i64 0, .slice aa at_.length ca] 29)) [-1] 3 (w6.heap.size + 1) (by simp) (by simp [InI64]) (by decide))).mono ?_
  rintro e w7 ⟨rfl, O7⟩
  have c1 : ((w6.alloc (.cells #[.slice av 1 cv, .int .i64 0, .slice aa at_.length ca] 29)).alloc (.cells #[.int .i64 (-1)] 3)).cell? ⟨w6.heap.size, 1, none⟩ = some (.int .i64 0) := by
    rw [World.cell?_alloc_past _ _ _ (by simp)]; simp
  have c7 := cell_keep c1 O7 (fun f => f)
  go_wp2_with fail
  go_ret
  exact ⟨rfl, ((O6'.alloc _).alloc _).same O7⟩
set_option maxRecDepth 100000 in
set_option maxHeartbeats 1600000 in
theorem learn_Run_any {n : Nat} (hn : n ≤ 65536) (h : One w0 w b (Tr.new n)) {vcs vd : Value} {css : List (List Int)} {ls : List Int} (hI : IntsS w0 vcs css) (hR : ∀ c ∈ css, c.length ≤ 17592186043904) (hb : css.length ≤ 120) (hD : Ints w0 vd ls) (hlb : ls.length ≤ 40) :
    Calls Try.prog 12 #[.pointer (some ⟨b, 0, none⟩), vcs, vd] w fun e w' => ∃ r T', e = .returned (.int .i64 r) ∧ One w0 w' b T' ∧ Ran n css T' r := by
  obtain ⟨ac, cc, rfl, _, _⟩ := hI.shape
  obtain ⟨ad, cd, rfl, _, _⟩ := hD.shape
  have hst : One w0 w b (Tr.new n) ∧ Has (Tr.new n) n (css.take 0) := ⟨h, Has.new hn⟩
  have HSt := Lib.hid hst
  clear hst h
  go_enter Try.func12, Try.ntmps12
  go_wp2_with fail
  go_loopw [14] (fun v wr => ∃ (k : Nat) (T : Trail), v = .int .i64 k ∧ k ≤ css.length ∧ One w0 wr b T ∧ Has T n (css.take k)) (fun v _ => css.length - (intOf v).toNat)
  case atStart => exact ⟨0, _, rfl, Nat.zero_le _, HSt.out⟩
  case round =>
    clear HSt
    obtain ⟨k, T, rfl, hk, hO, hH⟩ := hrel
    have hon := hO.on
    by_cases ck : k < css.length
    · obtain ⟨bb, off, u, rfl, _, q, hu⟩ := (hI.only0 hon).at ck
      obtain ⟨au, cu, rfl, _, _⟩ := hu.shape
      have hrl := hR _ (getD_mem' [] ck)
      have hts := take_snocL css k ck
      have hop := one_Add hO hH.inv (by have := hH.len; simp at this; omega) hu hrl
      have hH2 := hH.add hu.range (by simp; omega)
      rw [← hts] at hH2
      have HOp := Lib.hid hop
      have HH2 := Lib.hid hH2
      have ewk : IntKind.i64.wrap ((k : Int) + 1) = ((k + 1 : Nat) : Int) := by rw [IntWalk.i64_in _ (by omega)]; rfl
      clear hop hH2 hH hO hts hrl hu hI
      generalize css.getD k [] = c at *
      go_wp2_with fail
      refine HOp.out.mono ?_
      rintro e w2 ⟨rfl, h2⟩
      have H2 := Lib.hid h2
      clear h2 HOp
      go_wp2_with fail
      go_roundw
      case rel => exact ⟨k + 1, _, by first | rfl | go_num, by omega, H2.out, HH2.out⟩
      case measure => simp [intOf]; omega
    · obtain rfl : k = css.length := by omega
      rw [List.take_of_length_le (Nat.le_refl _)] at hH
      have hop := one_Follow hO hH.inv
      have HOp := Lib.hid hop
      have HH := Lib.hid hH
      clear hop hH hO hI
      go_wp2_with fail
      refine HOp.out.mono ?_
      rintro e w2 ⟨r, T2, rfl, hf, h2⟩
      have hr2 := HH.out.ran hf
      have HSt := Lib.hid (And.intro h2 hr2)
      clear hr2 h2 hf HH HOp
      go_wp2_with fail
      go_loopw [26, 9] (fun v vr wr => ∃ (k : Nat) (T : Trail) (r : Int), v = .int .i64 k ∧ vr = .int .i64 r ∧ k ≤ ls.length ∧ One w0 wr b T ∧ Ran n css T r) (fun v _ _ => ls.length - (intOf v).toNat)
      case atStart => exact ⟨0, _, _, rfl, rfl, Nat.zero_le _, HSt.out⟩
      case round =>
        clear HSt
        obtain ⟨k, T, r, rfl, rfl, hk, hO, hH⟩ := hrel
        have hon := hO.on
        have hrg := hH.range
        by_cases ck : k < ls.length
        · obtain ⟨bd, od, rfl, _, hds⟩ := hD.cells _ _ _ rfl (by omega)
          have q := cell_keep (hds k ck) hon (fun f => f)
          have hx := hD.range' k
          clear hds
          generalize ls.getD k 0 = x at *
          by_cases hr0 : 0 ≤ r
          · have d1 : decide (0 ≤ r) = true := decide_eq_true hr0
            have hres : ∃ r' T', Ending.returned (.int .i64 r) = .returned (.int .i64 r') ∧ One w0 wr b T' ∧ Ran n css T' r' := ⟨r, T, rfl, hO, hH⟩
            have HRes := Lib.hid hres
            clear hres hO hH
            go_wp2_with fail
            go_ret
            exact HRes.out
          · have d1 : decide (0 ≤ r) = false := decide_eq_false hr0
            have ewk : IntKind.i64.wrap ((k : Int) + 1) = ((k + 1 : Nat) : Int) := by rw [IntWalk.i64_in _ (by omega)]; rfl
            have hop := one_Decide hO hH.has.inv.ok x hx
            have HOp := Lib.hid hop
            by_cases hd : T.is x = true ∧ T.val x = 0
            · have e1 : T.decR x = true := by unfold Trail.decR; exact decide_eq_true hd
              rw [e1] at HOp
              have hH2 := hH.has.decX x
              have HH2 := Lib.hid hH2
              clear hop hH2 hO hH hd e1
              go_wp2_with fail
              refine HOp.out.mono ?_
              rintro e w2 ⟨rfl, h2⟩
              have hop2 := one_Follow h2 HH2.out.inv
              have HOp2 := Lib.hid hop2
              clear hop2 h2 HOp
              go_wp2_with fail
              refine HOp2.out.mono ?_
              rintro e w3 ⟨r3, T3, rfl, hf3, h3⟩
              have H3 := Lib.hid (And.intro h3 (HH2.out.ran hf3))
              clear h3 hf3 HOp2 HH2
              go_wp2_with fail
              go_roundw
              case rel => exact ⟨k + 1, _, _, by first | rfl | go_num, rfl, by omega, H3.out⟩
              case measure => simp [intOf]; omega
            · have e1 : T.decR x = false := by unfold Trail.decR; exact decide_eq_false hd
              have e2 : T.decX x = T := by unfold Trail.decX; exact if_neg hd
              rw [e1, e2] at HOp
              have HH := Lib.hid hH
              clear hop hO hH hd e1 e2
              go_wp2_with fail
              refine HOp.out.mono ?_
              rintro e w2 ⟨rfl, h2⟩
              have H2 := Lib.hid (And.intro h2 HH.out)
              clear h2 HOp HH
              go_wp2_with fail
              go_roundw
              case rel => exact ⟨k + 1, _, _, by first | rfl | go_num, rfl, by omega, H2.out⟩
              case measure => simp [intOf]; omega
        · have hres : ∃ r' T', Ending.returned (.int .i64 r) = .returned (.int .i64 r') ∧ One w0 wr b T' ∧ Ran n css T' r' := ⟨r, T, rfl, hO, hH⟩
          have HRes := Lib.hid hres
          obtain rfl : k = ls.length := by omega
          clear hres hO hH
          go_wp2_with fail
          go_ret
          exact HRes.out

set_option maxRecDepth 100000 in
set_option maxHeartbeats 1600000 in
theorem learn_live_any (h : One w0 w b T) (o : Ok T) :
    Calls Try.prog 13 #[.pointer (some ⟨b, 0, none⟩)] w fun e w' => ∃ v, e = .returned v ∧ IntsS w' v (T.liveTo T.cls.length) ∧ Only (fun _ => False) w w' := by
  have hcb := o.cb
  have hop := one_Clauses h
  go_enter Try.func13, Try.ntmps13
  go_wp2_with fail
  refine hop.mono ?_
  rintro e w2 ⟨rfl, rfl⟩
  go_wp2_with fail
  go_loopw [3, 8] (fun vo v wr => ∃ (k : Nat) (us : List Value), v = .int .i64 k ∧ k ≤ T.cls.length ∧ OwnS w wr vo us (T.liveTo k) ∧ Only (fun _ => False) w wr) (fun _ v _ => T.cls.length - (intOf v).toNat)
  case atStart => exact ⟨0, [], rfl, Nat.zero_le _, OwnS.nil w w, Only.refl _ _⟩
  case round =>
    obtain ⟨k, us, rfl, hk, hS, hO⟩ := hrel
    have hul : us.length ≤ T.cls.length := by have h1 := hS.ints.1; have h2 := liveTo_len T k; omega
    by_cases ck : k < T.cls.length
    · have hC := one_Clause (h.quiet hO) o (k : Int)
      have hsu := liveTo_succ T k
      have ewk : IntKind.i64.wrap ((k : Int) + 1) = ((k + 1 : Nat) : Int) := by rw [IntWalk.i64_in _ (by omega)]; rfl
      obtain ⟨cl, hcl⟩ : ∃ cl, T.clauseL (k : Int) = cl := ⟨_, rfl⟩
      rw [hcl] at hC hsu
      have HC := Lib.hid hC
      have HCl := Lib.hid hcl
      clear hC hcl
      cases cl with
      | none =>
        simp only [List.append_nil] at hsu
        rw [← hsu] at hS
        have HS := Lib.hid hS
        clear hS hsu hul
        go_wp2_with fail
        refine HC.out.mono ?_
        rintro e w3 ⟨rfl, rfl⟩
        go_wp2_with fail
        go_roundw
        case rel => exact ⟨k + 1, us, by first | rfl | go_num, by omega, HS.out, hO⟩
        case measure => simp [intOf]; omega
      | some c =>
        have hrng : ∀ x ∈ c, InI64 x := fun x hx => by
          have := (clauseL_ok o HCl.out).1 x hx
          have := o.n
          unfold InI64; omega
        have HRng := Lib.hid hrng
        clear hrng
        by_cases h0 : 0 < c.length
        · simp only [if_pos h0] at hsu
          have d0 : decide (0 < c.length) = true := decide_eq_true h0
          have HSu := Lib.hid hsu
          clear hsu
          go_wp2_with fail
          refine HC.out.mono ?_
          rintro e w3 ⟨ao, cap, rfl, R3, N3, O3⟩
          have hIf := Ints.of_own R3 HRng.out
          have hS2 := hS.only0 O3
          have hO2 := hO.same O3
          have hap : 0 < c.length → ∀ j, Value.blk (.slice (some ao) c.length cap) = some j → u3.ownBlock ≠ some j := by
            intro _ j hj hF
            have hj1 : Value.ownBlock (.slice (some ao) c.length cap) = some j := by
              rcases R3.2 with ⟨h', _⟩ | ⟨g', cap', cur, h', _⟩
              · rw [h'] at hj; simp [Value.blk] at hj
              · rw [h'] at hj ⊢; simpa [Value.blk, Value.ownBlock] using hj
            have h1 := N3 j hj1
            have h2 := own_lt hS.row hF
            omega
          have HAp := Lib.hid hap
          clear hap
          go_wp2_with (at_builtin; go_must (refine wpA1 (u := .slice (some ao) c.length cap) slInts rfl (.tmp 17) (.tmp 19) rfl rfl rfl (cell_newE _ _ _ _ rfl) rfl (own_only hS2.row ((Only.refl (fun _ => False) _).alloc _) (fun _ _ f => f)) (by omega) (by decide) ?n3))
          intro v2 w4 s1 s2 s3
          have hsz := hO2.size
          have hS3 := (hS2.only0 ((Only.refl (fun _ => False) _).alloc (.cells #[.slice (some ao) c.length cap] 23))).snoc (by simp; omega) (hIf.only0 ((Only.refl (fun _ => False) _).alloc _)) HAp.out s1 s2 s3
          have hO3 : Only (fun _ => False) w w4 := (hO2.alloc _).trans s2 (fun k hk => .inr (hS2.new k hk))
          rw [← HSu.out] at hS3
          clear s1 s2 s3 hS2
          go_wp2_with fail
          go_roundw
          case rel => exact ⟨k + 1, us ++ [.slice (some ao) c.length cap], by first | rfl | go_num, by omega, hS3, hO3⟩
          case measure => simp [intOf]; omega
        · simp only [if_neg h0, List.append_nil] at hsu
          have d0 : decide (0 < c.length) = false := decide_eq_false h0
          rw [← hsu] at hS
          have HS := Lib.hid hS
          clear hS hsu hul
          go_wp2_with fail
          refine HC.out.mono ?_
          rintro e w3 ⟨ao, cap, rfl, R3, N3, O3⟩
          have HS3 := Lib.hid (HS.out.only0 O3)
          have hO2 := hO.same O3
          clear R3 N3 O3
          go_wp2_with fail
          go_roundw
          case rel => exact ⟨k + 1, us, by first | rfl | go_num, by omega, HS3.out, hO2⟩
          case measure => simp [intOf]; omega
    · have hk' : k = T.cls.length := by omega
      have hfin : IntsS wr u3 (T.liveTo T.cls.length) := by rw [hk'] at hS; exact hS.intsS
      have HFin := Lib.hid hfin
      clear hS hfin
      go_wp2_with fail
      go_ret
      exact ⟨_, rfl, HFin.out, hO⟩
end
end Go.Proofs.Ytjedgdamommgeaa

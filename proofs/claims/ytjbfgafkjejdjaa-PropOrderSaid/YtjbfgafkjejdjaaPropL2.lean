/- The walk of cooperlaw18.PropOrder. -/
import Derived.Test.YtjbfgafkjejdjaaPropL1
namespace Go.Proofs.Ytjbfgafkjejdjaa
open Go.RowKit
open Tr

namespace Tr
/-- clauses added, one behind the other -/
def Trail.addAll (T : Trail) (css : List (List Int)) : Trail := css.foldl Trail.addX T

theorem addAll_snoc (T : Trail) (css : List (List Int)) (c : List Int) : T.addAll (css ++ [c]) = (T.addAll css).addX c := by
  unfold Trail.addAll; rw [List.foldl_append]; rfl

theorem addX_cases (T : Trail) (xs : List Int) : (∃ f, Cnf.form xs = some f ∧ (∀ x ∈ f, x ≠ 0 ∧ x.natAbs ≤ T.n) ∧ T.addX xs = T.add f) ∨ ((∀ f, Cnf.form xs = some f → ¬ ∀ x ∈ f, x ≠ 0 ∧ x.natAbs ≤ T.n) ∧ T.addX xs = T) := by
  cases hf : Cnf.form xs with
  | none => exact .inr ⟨(fun f h => by cases h), (by unfold Trail.addX; rw [hf])⟩
  | some f =>
    by_cases h : ∀ x ∈ f, x ≠ 0 ∧ x.natAbs ≤ T.n
    · exact .inl ⟨f, rfl, h, addX_form hf h⟩
    · refine .inr ⟨fun f' h' => by obtain rfl := Option.some.inj h'; exact h, ?_⟩
      unfold Trail.addX
      rw [hf]
      have : f.all T.is = false := by
        rw [← Bool.not_eq_true, List.all_eq_true]
        exact fun h2 => h fun x hx => is_iff.1 (h2 x hx)
      simp only [this]; rfl

/-- the clauses that may be, of atoms up to n -/
def Right (n : Nat) (css : List (List Int)) (f : List Int) : Prop := (∃ c ∈ css, Cnf.form c = some f) ∧ ∀ x ∈ f, x ≠ 0 ∧ x.natAbs ≤ n

/-- a trail to which these clauses were added -/
structure Has (T : Trail) (n : Nat) (css : List (List Int)) : Prop where
  inv : Inv T
  whole : T.whole
  hn : T.n = n
  fwd : ∀ f, Right n css f → ∃ d ∈ T.cls, f.Perm d
  bwd : ∀ d ∈ T.cls, ∃ f, Right n css f ∧ d.Perm f
  len : T.cls.length ≤ css.length

theorem Has.new {n : Nat} (hn : n ≤ 65536) : Has (Tr.new n) n [] :=
  ⟨Inv.new hn, (fun k hk => by simp [Tr.new] at hk), rfl, (fun f h => by obtain ⟨⟨c, hc, _⟩, _⟩ := h; cases hc), (fun d hd => by simp [Tr.new] at hd), Nat.zero_le _⟩

theorem Has.mono {T : Trail} {n : Nat} {css ds : List (List Int)} (h : Has T n css) (h1 : ∀ c, c ∈ css ↔ c ∈ ds) (h2 : css.length ≤ ds.length) : Has T n ds :=
  ⟨h.inv, h.whole, h.hn, fun f hf => h.fwd f ⟨by obtain ⟨⟨c, hc, e⟩, _⟩ := hf; exact ⟨c, (h1 c).2 hc, e⟩, hf.2⟩, fun d hd => by obtain ⟨f, hf, p⟩ := h.bwd d hd; exact ⟨f, ⟨by obtain ⟨⟨c, hc, e⟩, _⟩ := hf; exact ⟨c, (h1 c).1 hc, e⟩, hf.2⟩, p⟩, Nat.le_trans h.len h2⟩

theorem Has.add {T : Trail} {n : Nat} {css : List (List Int)} (h : Has T n css) {c : List Int} (hr : ∀ x ∈ c, InI64 x) (hb : css.length < 2147483648) : Has (T.addX c) n (css ++ [c]) := by
  have hn := h.hn
  rcases addX_cases T c with ⟨f, h1, h2, h3⟩ | ⟨h1, h2⟩
  · rw [h3]
    have hg : Up.Good T.n f := form_good hr h1 h2
    have hi := h.inv.add hg (by have := h.len; omega)
    have hgl := h.inv.ok.gl
    refine ⟨hi, fun k hk => ?_, hn, fun f' hf' => ?_, fun d hd => ?_, ?_⟩
    · show (T.gone ++ [false]).getD k true = false
      have hk : k < (T.cls ++ [f]).length := hk
      rw [List.length_append, List.length_singleton] at hk
      by_cases e : k < T.cls.length
      · rw [getD_app_l _ _ _ (by omega)]; exact h.whole k e
      · rw [getD_app_r _ _ _ (by omega), show k - T.gone.length = 0 by omega]; rfl
    · obtain ⟨⟨c', hc', e⟩, h5⟩ := hf'
      rcases List.mem_append.1 hc' with hc' | hc'
      · obtain ⟨d, hd, p⟩ := h.fwd f' ⟨⟨c', hc', e⟩, h5⟩
        exact ⟨d, List.mem_append_left _ hd, p⟩
      · simp at hc'; subst hc'
        rw [h1] at e
        obtain rfl := Option.some.inj e
        exact ⟨f, List.mem_append_right _ (by simp), List.Perm.refl _⟩
    · have hd : d ∈ T.cls ++ [f] := hd
      rcases List.mem_append.1 hd with hd | hd
      · obtain ⟨f', ⟨⟨c', hc', e⟩, h5⟩, p⟩ := h.bwd d hd
        exact ⟨f', ⟨⟨c', List.mem_append_left _ hc', e⟩, h5⟩, p⟩
      · simp at hd; subst hd
        exact ⟨d, ⟨⟨c, by simp, h1⟩, by rw [← hn]; exact h2⟩, List.Perm.refl _⟩
    · show (T.cls ++ [f]).length ≤ _
      simp; exact h.len
  · rw [h2]
    refine ⟨h.inv, h.whole, hn, fun f' hf' => ?_, fun d hd => ?_, by simp; have := h.len; omega⟩
    · obtain ⟨⟨c', hc', e⟩, h5⟩ := hf'
      rcases List.mem_append.1 hc' with hc' | hc'
      · exact h.fwd f' ⟨⟨c', hc', e⟩, h5⟩
      · simp at hc'; subst hc'
        exact absurd (by rw [hn]; exact h5) (h1 f' e)
    · obtain ⟨f', ⟨⟨c', hc', e⟩, h5⟩, p⟩ := h.bwd d hd
      exact ⟨f', ⟨⟨c', List.mem_append_left _ hc', e⟩, h5⟩, p⟩

theorem Has.like {T U : Trail} {n : Nat} {css ds : List (List Int)} (h : Has T n css) (k : Has U n ds) (hs : ∀ c ∈ css, c ∈ ds) : Like T.cls U.cls := fun d hd => by
  obtain ⟨f, ⟨⟨c, hc, e⟩, h2⟩, p⟩ := h.bwd d hd
  obtain ⟨d', hd', q⟩ := k.fwd f ⟨⟨c, hs c hc, e⟩, h2⟩
  exact ⟨d', hd', p.trans q⟩

theorem addX_ents (T : Trail) (c : List Int) : (T.addX c).ents = T.ents ∧ (T.addX c).levels = T.levels := by
  rcases addX_cases T c with ⟨f, _, _, h⟩ | ⟨_, h⟩ <;> rw [h] <;> exact ⟨rfl, rfl⟩

theorem Has.twin {T U : Trail} {n : Nat} {css ds : List (List Int)} (h : Has T n css) (k : Has U n ds) (hs : ∀ c, c ∈ css ↔ c ∈ ds) (e1 : T.ents = []) (e2 : U.ents = []) (l1 : T.levels = []) (l2 : U.levels = []) : Twin T U :=
  Twin.start h.inv k.inv h.whole k.whole (by rw [h.hn, k.hn]) (h.like k fun c hc => (hs c).1 hc) (k.like h fun c hc => (hs c).2 hc) e1 e2 l1 l2

theorem Twin.decX {T U : Trail} (W : Twin T U) (x : Int) : Twin (T.decX x) (U.decX x) ∧ U.decR x = T.decR x := by
  have h1 : U.is x = T.is x := by unfold Trail.is; rw [W.n]
  unfold Trail.decX Trail.decR
  rw [h1, W.val]
  refine ⟨?_, rfl⟩
  split
  · rename_i h; exact W.decide (is_iff.1 h.1) h.2
  · exact W

theorem Twin.at_ {T U : Trail} (W : Twin T U) (x : Int) : (U.at x).1 = (T.at x).1 := by
  have h1 := W.lev x.natAbs
  unfold Trail.lev at h1
  unfold Trail.at
  rw [W.val]
  split
  · exact h1
  · rfl
end Tr

theorem getD_rev {α : Type} (l : List α) (d : α) {i : Nat} (h : i < l.length) : l.getD (l.length - 1 - i) d = l.reverse.getD i d := by
  simp [List.getD_eq_getElem?_getD, h, show l.length - 1 - i < l.length by omega]
theorem take_snocC {α : Type} (xs : List α) (d : α) (k : Nat) (h : k < xs.length) : xs.take (k + 1) = xs.take k ++ [xs.getD k d] := by
  rw [List.take_succ_eq_append_getElem h]
  simp [List.getD_eq_getElem?_getD, h]

section
variable {w : World}

/-- both trails as they are while clauses are added -/
structure OrdA (w : World) (N : Nat) (css ds : List (List Int)) (b c : Nat) (wr : World) (T U : Trail) : Prop where
  two : Two w wr b T c U
  ht : Has T N css
  hu : Has U N ds
  et : T.ents = [] ∧ T.levels = []
  eu : U.ents = [] ∧ U.levels = []

theorem OrdA.step1 {N : Nat} {css ds : List (List Int)} {b c : Nat} {wr : World} {T U : Trail} (h : OrdA w N css ds b c wr T U) (hb : css.length < 2147483648) {v : Value} {xs : List Int} (hI : Ints wr v xs) (hx : xs.length ≤ 17592186043904) :
    Calls Try.prog 34 #[.pointer (some ⟨b, 0, none⟩), v] wr fun e w' => e = .returned (.int .i64 (T.addR xs)) ∧ OrdA w N (css ++ [xs]) ds b c w' (T.addX xs) U :=
  (two_Add h.two h.ht.inv (by have := h.ht.len; omega) hI hx).mono fun e w' ⟨he, ht⟩ => ⟨he, ht, h.ht.add hI.range hb, h.hu, by rw [(addX_ents T xs).1, (addX_ents T xs).2]; exact h.et, h.eu⟩
theorem OrdA.symm {N : Nat} {css ds : List (List Int)} {b c : Nat} {wr : World} {T U : Trail} (h : OrdA w N css ds b c wr T U) : OrdA w N ds css c b wr U T := ⟨h.two.symm, h.hu, h.ht, h.eu, h.et⟩

/-- what following both tells -/
def OrdF (w : World) (b c : Nat) (wr : World) (r s : Int) : Prop := ∃ T U, Two w wr b T c U ∧ ((r = -1 ∧ s = -1 ∧ Tr.Twin T U) ∨ (0 ≤ r ∧ 0 ≤ s))

set_option maxRecDepth 100000 in
set_option maxHeartbeats 3200000 in
theorem PropOrder_walk {z : Int} (hz : 0 ≤ z ∧ z ≤ 255) {vcs vd : Value} {css : List (List Int)} {ls : List Int} (hI : IntsS w vcs css) (hR : ∀ c ∈ css, c.length ≤ 17592186043904) (hD : Ints w vd ls) :
    Calls Try.prog 9 #[.int .u8 z, vcs, vd] w fun e w' => e = .returned (.bool true) ∧ Only (fun _ => False) w w' := by
  obtain ⟨us, hC, hA⟩ := hI
  have hul := hA.1
  obtain ⟨ac, cc, rfl, _, _⟩ := hC.shape
  obtain ⟨ad, cd, rfl, _, _⟩ := hD.shape
  rw [hul] at hC
  by_cases h1 : 100 < css.length
  · have d1 : decide (100 < css.length) = true := decide_eq_true h1
    have d1' : decide ((100 : Int) < (css.length : Int)) = true := decide_eq_true (by omega)
    rw [hul]
    clear hC hA hD hul
    go_enter Try.func9, Try.ntmps9
    go_wp2_with fail
    refine prop_fixed_any.mono ?_
    rintro e w1 ⟨rfl, O1⟩
    go_wp2_with fail
    go_ret
    exact ⟨rfl, O1⟩
  have d1 : decide (100 < css.length) = false := decide_eq_false h1
  have d1' : decide ((100 : Int) < (css.length : Int)) = false := decide_eq_false (by omega)
  rw [hul]
  by_cases h2 : 30 < ls.length
  · have d2 : decide (30 < ls.length) = true := decide_eq_true h2
    have d2' : decide ((30 : Int) < (ls.length : Int)) = true := decide_eq_true (by omega)
    clear hC hA hD hul
    go_enter Try.func9, Try.ntmps9
    go_wp2_with fail
    refine prop_fixed_any.mono ?_
    rintro e w1 ⟨rfl, O1⟩
    go_wp2_with fail
    go_ret
    exact ⟨rfl, O1⟩
  have d2 : decide (30 < ls.length) = false := decide_eq_false h2
  have d2' : decide ((30 : Int) < (ls.length : Int)) = false := decide_eq_false (by omega)
  obtain ⟨N, hN⟩ : ∃ N : Nat, z % 31 = (N : Int) := ⟨(z % 31).toNat, by omega⟩
  have hN30 : N ≤ 30 := by omega
  obtain ⟨hz1, hz2⟩ := hz
  have HUl := Lib.hid hul
  clear hul
  go_enter Try.func9, Try.ntmps9
  go_wp2_with fail
  refine (one_New w (N : Int) (by unfold InI64; omega) N (by omega)).mono ?_
  rintro e w1 ⟨b, rfl, H1⟩
  go_wp2_with fail
  refine (two_New H1 (N : Int) (by unfold InI64; omega) N (by omega)).mono ?_
  rintro e w2 ⟨c, rfl, H2⟩
  have hst : OrdA w N (css.take 0) (css.reverse.take 0) b c w2 (Tr.new N) (Tr.new N) := ⟨H2, Has.new (by omega), Has.new (by omega), ⟨rfl, rfl⟩, ⟨rfl, rfl⟩⟩
  have HSt := Lib.hid hst
  clear hst H1 H2 hN
  go_wp2_with fail
  go_loopw [38] (fun v wr => ∃ (k : Nat) (T U : Trail), v = .int .i64 k ∧ k ≤ css.length ∧ OrdA w N (css.take k) (css.reverse.take k) b c wr T U) (fun v _ => css.length - (intOf v).toNat)
  case atStart => exact ⟨0, _, _, rfl, Nat.zero_le _, HSt.out⟩
  case round =>
    clear HSt
    obtain ⟨k, T, U, rfl, hk, hO⟩ := hrel
    have HO := Lib.hid hO
    have hOn := hO.two.on
    clear hO
    by_cases ck : k < css.length
    · obtain ⟨bc, oc, rfl, _, hcs⟩ := hC.cells _ _ _ rfl (by rw [HUl.out]; omega)
      have q1w := hcs k (by rw [HUl.out]; exact ck)
      have q2w := hcs (css.length - 1 - k) (by rw [HUl.out]; omega)
      have i1 := hA.2 k ck
      have i2 := hA.2 (css.length - 1 - k) (by omega)
      rw [getD_rev css [] ck] at i2
      have t1 := take_snocC css [] k ck
      have t2 := take_snocC css.reverse [] k (by simpa using ck)
      obtain ⟨x1, hx1⟩ : ∃ x, css.getD k [] = x := ⟨_, rfl⟩
      obtain ⟨x2, hx2⟩ : ∃ x, css.reverse.getD k [] = x := ⟨_, rfl⟩
      rw [hx1] at i1 t1
      rw [hx2] at i2 t2
      obtain ⟨a1, c1, e1, _, _⟩ := i1.shape
      obtain ⟨a2, c2, e2, _, _⟩ := i2.shape
      rw [e1] at q1w i1
      rw [e2] at q2w i2
      have r1 : x1.length ≤ 17592186043904 := by rw [← hx1]; exact hR _ (getD_mem' [] ck)
      have r2 : x2.length ≤ 17592186043904 := by rw [← hx2]; exact hR _ (List.mem_reverse.1 (getD_mem' [] (by simpa using ck)))
      have HT1 := Lib.hid t1
      have HT2 := Lib.hid t2
      have HI2 := Lib.hid i2
      have HQ2 := Lib.hid q2w
      have q1 := cell_keep q1w hOn (fun f => f)
      have hop := HO.out.step1 (by simp; omega) (i1.only0 hOn) r1
      have HOp := Lib.hid hop
      have ewk : IntKind.i64.wrap ((k : Int) + 1) = ((k + 1 : Nat) : Int) := by rw [IntWalk.i64_in _ (by omega)]; rfl
      have ew1 : IntKind.i64.wrap ((css.length : Int) - 1) = (css.length : Int) - 1 := IntWalk.i64_in _ (by omega)
      have ew2 : IntKind.i64.wrap ((css.length : Int) - 1 - (k : Int)) = ((css.length - 1 - k : Nat) : Int) := by rw [IntWalk.i64_in _ (by omega)]; omega
      clear hcs t1 t2 hx1 hx2 e1 e2 i1 i2 q1w q2w hop
      by_cases h12 : 12 < x1.length
      · have d12 : decide (12 < x1.length) = true := decide_eq_true h12
        go_wp2_with fail
        refine prop_fixed_any.mono ?_
        rintro e w3 ⟨rfl, O3⟩
        go_wp2_with fail
        go_ret
        exact ⟨rfl, hOn.same O3⟩
      · have d12 : decide (12 < x1.length) = false := decide_eq_false h12
        go_wp2_with fail
        refine HOp.out.mono ?_
        rintro e w3 ⟨rfl, h3⟩
        have q2 := cell_keep HQ2.out h3.two.on (fun f => f)
        have hop2 := h3.symm.step1 (by simp; omega) (HI2.out.only0 h3.two.on) r2
        have HOp2 := Lib.hid hop2
        clear hop2 q1 h3 HOp
        go_wp2_with fail
        refine HOp2.out.mono ?_
        rintro e w4 ⟨rfl, h4⟩
        have h5 := h4.symm
        rw [← HT1.out, ← HT2.out] at h5
        have H5 := Lib.hid h5
        clear h4 h5 q2
        go_wp2_with fail
        go_roundw
        case rel => exact ⟨k + 1, _, _, by first | rfl | go_num, by omega, H5.out⟩
        case measure => simp [intOf]; omega
    · have hkl : k = css.length := by omega
      have hO := HO.out
      rw [hkl, List.take_of_length_le (Nat.le_refl _), List.take_of_length_le (by simp)] at hO
      have hW : Tr.Twin T U := hO.ht.twin hO.hu (fun c => List.mem_reverse.symm) hO.et.1 hO.eu.1 hO.et.2 hO.eu.2
      have HW := Lib.hid hW
      have hf1 := two_Follow hO.two hO.ht.inv
      have HF1 := Lib.hid hf1
      have hiu := hO.hu.inv
      clear hO hW hf1 HO
      go_wp2_with fail
      refine HF1.out.mono ?_
      rintro e w3 ⟨r, T1, rfl, hf1, h3⟩
      have hf2 := two_Follow h3.symm hiu
      have HF2 := Lib.hid hf2
      have HFo1 := Lib.hid hf1
      clear hf1 hf2 h3 HF1
      go_wp2_with fail
      refine HF2.out.mono ?_
      rintro e w4 ⟨s, U1, rfl, hf2, h4⟩
      have hst : OrdF w b c w4 r s := ⟨T1, U1, h4.symm, HW.out.follow HFo1.out hf2⟩
      have HSt := Lib.hid hst
      clear hst hf2 h4 HF2 HFo1 HW hiu
      go_wp2_with fail
      go_loopw [71, 11, 12] (fun v va vb wr => ∃ (k : Nat) (r s : Int), v = .int .i64 k ∧ k ≤ ls.length ∧ va = .int .i64 r ∧ vb = .int .i64 s ∧ OrdF w b c wr r s) (fun v _ _ _ => ls.length - (intOf v).toNat)
      case atStart => exact ⟨0, r, s, rfl, Nat.zero_le _, rfl, rfl, HSt.out⟩
      case round =>
        clear HSt
        obtain ⟨k2, r2, s2, rfl, hk2, rfl, rfl, T2, U2, h2w, hrs⟩ := hrel
        have hOn2 := h2w.on
        have HRs := Lib.hid hrs
        clear hrs
        by_cases ck2 : k2 < ls.length
        · obtain ⟨bd, od, rfl, _, hds⟩ := hD.cells _ _ _ rfl (by omega)
          have q := cell_keep (hds k2 ck2) hOn2 (fun f => f)
          have hx := hD.range' k2
          obtain ⟨x, hxe⟩ : ∃ x, ls.getD k2 0 = x := ⟨_, rfl⟩
          rw [hxe] at q hx
          have ewk : IntKind.i64.wrap ((k2 : Int) + 1) = ((k2 + 1 : Nat) : Int) := by rw [IntWalk.i64_in _ (by omega)]; rfl
          clear hds hxe
          rcases HRs.out with ⟨rfl, rfl, W⟩ | ⟨r0, s0⟩
          · have hd1 := two_Decide h2w W.it.ok x hx
            have HD1 := Lib.hid hd1
            have HWx := Lib.hid (W.decX x)
            have hiu := W.iu.ok
            clear hd1 HRs W h2w
            go_wp2_with fail
            refine HD1.out.mono ?_
            rintro e w5 ⟨rfl, h5⟩
            have hd2 := two_Decide h5.symm hiu x hx
            rw [HWx.out.2] at hd2
            have HD2 := Lib.hid hd2
            clear hd2 h5 HD1
            go_wp2_with fail
            refine HD2.out.mono ?_
            rintro e w6 ⟨rfl, h6⟩
            have hf1 := two_Follow h6.symm HWx.out.1.it
            have HF1 := Lib.hid hf1
            clear hf1 h6 HD2
            generalize T2.decR x = dd at *
            go_wp2_with fail
            refine HF1.out.mono ?_
            rintro e w7 ⟨r3, T3, rfl, hf3, h7⟩
            have hf4 := two_Follow h7.symm HWx.out.1.iu
            have HF4 := Lib.hid hf4
            have HFo3 := Lib.hid hf3
            clear hf3 hf4 h7 HF1
            go_wp2_with fail
            refine HF4.out.mono ?_
            rintro e w8 ⟨s3, U3, rfl, hf5, h8⟩
            have hst : OrdF w b c w8 r3 s3 := ⟨T3, U3, h8.symm, HWx.out.1.follow HFo3.out hf5⟩
            have HSt := Lib.hid hst
            clear hst hf5 h8 HF4 HFo3 HWx hiu
            go_wp2_with fail
            go_roundw
            case rel => exact ⟨k2 + 1, r3, s3, by first | rfl | go_num, by omega, rfl, rfl, HSt.out⟩
            case measure => simp [intOf]; omega
          · have dr : decide (0 ≤ r2) = true := decide_eq_true r0
            have ds : decide (0 ≤ s2) = true := decide_eq_true s0
            clear HRs h2w
            go_wp2_with fail
            refine prop_fixed_any.mono ?_
            rintro e w5 ⟨rfl, O5⟩
            go_wp2_with fail
            go_ret
            exact ⟨rfl, hOn2.same O5⟩
        · have hk2l : k2 = ls.length := by omega
          subst hk2l
          rcases HRs.out with ⟨rfl, rfl, W⟩ | ⟨r0, s0⟩
          · have HW := Lib.hid W
            have HSt := Lib.hid h2w
            clear W h2w HRs
            go_wp2_with fail
            go_loopw [15] (fun v wr => ∃ i : Nat, v = .int .i64 i ∧ 1 ≤ i ∧ i ≤ N + 1 ∧ Two w wr b T2 c U2) (fun v _ => N + 1 - (intOf v).toNat)
            case atStart => exact ⟨1, rfl, Nat.le_refl _, by omega, HSt.out⟩
            case round =>
              clear HSt
              obtain ⟨i, rfl, hi1, hi2, h2⟩ := hrel
              have hOn3 := h2.on
              have H2 := Lib.hid h2
              clear h2
              by_cases ci : i ≤ N
              · have d3 : decide (i ≤ N) = true := decide_eq_true ci
                have hxi : InI64 (i : Int) := by unfold InI64; omega
                obtain ⟨p1, p2, hp⟩ : ∃ p1 p2, T2.at (i : Int) = (p1, p2) := ⟨_, _, rfl⟩
                obtain ⟨q2, hq⟩ : ∃ q2, U2.at (i : Int) = (p1, q2) := ⟨(U2.at (i : Int)).2, by have := HW.out.at_ (i : Int); rw [hp] at this; exact Prod.ext this rfl⟩
                obtain ⟨v, hv⟩ : ∃ v, T2.val (i : Int) = v := ⟨_, rfl⟩
                have hv2 : U2.val (i : Int) = v := by rw [HW.out.val]; exact hv
                have HP := Lib.hid hp
                have HQ := Lib.hid hq
                have HV := Lib.hid hv
                have HV2 := Lib.hid hv2
                have ewi : IntKind.i64.wrap ((i : Int) + 1) = ((i + 1 : Nat) : Int) := by rw [IntWalk.i64_in _ (by omega)]; rfl
                have ha1 := one_At H2.out.one HW.out.it.ok (i : Int) hxi _ HP.out
                have HA1 := Lib.hid ha1
                clear hp hq hv hv2 ha1
                go_wp2_with fail
                refine HA1.out.mono ?_
                rintro e w5 ⟨rfl, O5⟩
                have ha2 := one_At (H2.out.quiet O5).symm.one HW.out.iu.ok (i : Int) hxi _ HQ.out
                have HA2 := Lib.hid ha2
                clear ha2 HA1
                go_wp2_with fail
                refine HA2.out.mono ?_
                rintro e w6 ⟨rfl, O6⟩
                have h6 := (H2.out.quiet O5).quiet O6
                have ha3 := one_Value h6.one HW.out.it.ok (i : Int) hxi v HV.out
                have ha4 := one_Value h6.symm.one HW.out.iu.ok (i : Int) hxi v HV2.out
                have HA3 := Lib.hid ha3
                have HA4 := Lib.hid ha4
                have H6 := Lib.hid h6
                clear ha3 ha4 h6 HA2
                go_wp2_with fail
                refine HA3.out.mono ?_
                rintro e w7 ⟨rfl, rfl⟩
                go_wp2_with fail
                refine HA4.out.mono ?_
                rintro e w7 ⟨rfl, rfl⟩
                go_wp2_with fail
                go_roundw
                case rel => exact ⟨i + 1, by first | rfl | go_num, by omega, by omega, H6.out⟩
                case measure => simp [intOf]; omega
              · have d3 : decide (i ≤ N) = false := decide_eq_false ci
                go_wp2_with fail
                refine prop_fixed_any.mono ?_
                rintro e w5 ⟨rfl, O5⟩
                have h5 := H2.out.quiet O5
                have hl1 := one_List h5.one HW.out.it.ok
                have HL1 := Lib.hid hl1
                have H5 := Lib.hid h5
                clear hl1 h5
                go_wp2_with fail
                refine HL1.out.mono ?_
                rintro e w6 ⟨v1, rfl, R1, -, O6⟩
                obtain ⟨a1, c1, rfl, -, -⟩ := own_slice R1
                have h6 := H5.out.quiet O6
                have hl2 := one_List h6.symm.one HW.out.iu.ok
                rw [HW.out.llen] at hl2
                have HL2 := Lib.hid hl2
                have H6 := Lib.hid h6
                clear hl2 h6 R1 HL1
                go_wp2_with fail
                refine HL2.out.mono ?_
                rintro e w7 ⟨v2, rfl, R2, -, O7⟩
                obtain ⟨a2, c2, rfl, -, -⟩ := own_slice R2
                have hend : Only (fun _ => False) w w7 := H6.out.on.same O7
                clear R2 HL2
                go_wp2_with fail
                go_ret
                exact ⟨rfl, hend⟩
          · have dr : decide (0 ≤ r2) = true := decide_eq_true r0
            have ds : decide (0 ≤ s2) = true := decide_eq_true s0
            clear HRs h2w
            go_wp2_with fail
            refine prop_fixed_any.mono ?_
            rintro e w5 ⟨rfl, O5⟩
            go_wp2_with fail
            go_ret
            exact ⟨rfl, hOn2.same O5⟩
end
end Go.Proofs.Ytjbfgafkjejdjaa

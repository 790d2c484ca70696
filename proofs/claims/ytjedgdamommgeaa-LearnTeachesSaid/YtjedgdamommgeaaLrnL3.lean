/- The walk of cooperlaw19.LearnTeaches. -/
import Derived.Test.YtjedgdamommgeaaLrnL2
import Derived.Test.YtjedgdamommgeaaLrnP5
set_option linter.unusedVariables false
namespace Go.Proofs.Ytjedgdamommgeaa
open Go.RowKit
open Tr

namespace Tr
open Cnf Up

/-- what From hands back of a conflict -/
def Les (T : Trail) (D : List (List Int)) (c C : List Int) (back : Int) : Prop :=
  (T.top c = 0 ∧ C = [] ∧ back = 0 ∧ (c ≠ [] → Conf [] D)) ∨ (0 < T.top c ∧ ∃ first rest, C = first :: rest ∧ back = rest.foldl (fun b l => max b (T.lvl l)) 0 ∧ Taught T D (T.top c) first rest)

def Trail.backTo' (T : Trail) (C : List Int) (i : Nat) : Int := ((C.take i).drop 1).foldl (fun b l => max b (T.lvl l)) 0
theorem backTo_zero (T : Trail) (C : List Int) : T.backTo' C 0 = 0 := by simp [Trail.backTo']
theorem backTo_one (T : Trail) (C : List Int) : T.backTo' C 1 = 0 := by
  unfold Trail.backTo'
  rw [List.drop_of_length_le (by rw [List.length_take]; omega)]; rfl
theorem backTo_succ (T : Trail) (C : List Int) {i : Nat} (h0 : 0 < i) (hi : i < C.length) : T.backTo' C (i + 1) = max (T.backTo' C i) (T.lvl (C.getD i 0)) := by
  unfold Trail.backTo'
  rw [take_snocI C i hi, List.drop_append_of_le_length (by rw [List.length_take]; omega), List.foldl_append]; rfl

structure LesAt (T : Trail) (top : Int) (C : List Int) (i : Nat) (y : Int) : Prop where
  neg : -y ∈ T.lits
  first : (T.lvl y == top) = (i == 0)
  ord : 1 < i → (C.getD (i - 1) 0).natAbs < y.natAbs
  prev : 0 < i → Cnf.Lit (C.getD (i - 1) 0)
  top : 0 < top

theorem Les.at_ {T : Trail} (h : Inv T) {D : List (List Int)} {c C : List Int} {back : Int} (L : Les T D c C back) {i : Nat} (hi : i < C.length) : LesAt T (T.top c) C i (C.getD i 0) := by
  rcases L with ⟨_, rfl, _⟩ | ⟨htop, first, rest, rfl, _, W⟩
  · simp at hi
  · have hlit : ∀ y ∈ first :: rest, Cnf.Lit y := fun y hy => by
      have := h.ok.good.lit _ (W.neg y hy)
      have := h.ok.n
      exact lit_of (by omega) (by omega)
    have hm : (first :: rest).getD i 0 ∈ first :: rest := getD_mem' 0 hi
    refine ⟨W.neg _ hm, ?_, fun h1 => ?_, fun h0 => hlit _ (getD_mem' 0 (by omega)), htop⟩
    · cases i with
      | zero => simpa using W.ltop
      | succ i =>
        have hi' : i < rest.length := by simpa using hi
        have e : (first :: rest).getD (i + 1) 0 = rest.getD i 0 := rfl
        have := W.lrest (rest.getD i 0) (getD_mem' 0 hi')
        rw [e]
        have e1 : (T.lvl (rest.getD i 0) == T.top c) = false := by rw [beq_eq_false_iff_ne]; omega
        rw [e1]; rfl
    · obtain ⟨j, rfl⟩ : ∃ j, i = j + 2 := ⟨i - 2, by omega⟩
      have hi' : j + 1 < rest.length := by simp at hi; omega
      have hp := W.srt
      rw [List.pairwise_iff_getElem] at hp
      have h2 := hp j (j + 1) (by omega) hi' (by omega)
      have e1 : (first :: rest).getD (j + 2 - 1) 0 = rest[j] := by
        show rest.getD j 0 = _
        simp [List.getD_eq_getElem?_getD, show j < rest.length by omega]
      have e2 : (first :: rest).getD (j + 2) 0 = rest[j + 1] := by
        show rest.getD (j + 1) 0 = _
        simp [List.getD_eq_getElem?_getD, hi']
      rw [e1, e2]; exact h2

theorem Les.end_ {T : Trail} {D : List (List Int)} {c C : List Int} {back : Int} (L : Les T D c C back) : T.backTo' C C.length = back := by
  rcases L with ⟨_, rfl, rfl, _⟩ | ⟨_, first, rest, rfl, rfl, _⟩
  · rfl
  · unfold Trail.backTo'
    rw [List.take_of_length_le (Nat.le_refl _)]; rfl

theorem Les.none_ {T : Trail} {D : List (List Int)} {c C : List Int} {back : Int} (L : Les T D c C back) (h : T.top c = 0) : C = [] ∧ back = 0 := by
  rcases L with ⟨_, h1, h2, _⟩ | ⟨h1, _⟩
  · exact ⟨h1, h2⟩
  · omega

theorem Les.len {T : Trail} (h : Inv T) {D : List (List Int)} {c C : List Int} {back : Int} (L : Les T D c C back) : C.length ≤ T.n := by
  rcases L with ⟨_, rfl, _⟩ | ⟨_, first, rest, rfl, _, W⟩
  · simp
  · exact (W.good h).len

theorem Les.conf_ {T : Trail} (h : Inv T) {n : Nat} (hn : T.n = n) {D : List (List Int)} (hC : ∀ c ∈ D, Cls n c) {c C : List Int} {back : Int} (L : Les T D c C back) (hne : c ≠ []) : (allR D (n + 1) (C.map fun y => -y)).2 = true := by
  rcases L with ⟨_, rfl, _, h2⟩ | ⟨_, first, rest, rfl, _, W⟩
  · exact against_conf ⟨fun y hy => (by cases hy), List.nodup_nil⟩ hC (h2 hne)
  · refine against_conf ?_ hC W.conf
    rw [← hn]; exact good_neg (W.good h)

theorem Les.back_ {T : Trail} (h : Inv T) {D : List (List Int)} {c C : List Int} {back : Int} (L : Les T D c C back) (ht : T.top c ≠ 0) : 0 ≤ back ∧ back ≤ 65536 ∧ (T.top c ≤ T.levels.length → ∀ i, i < C.length → (T.back back).val (C.getD i 0) = if i = 0 then 0 else -1) := by
  rcases L with ⟨h0, _⟩ | ⟨htop, first, rest, rfl, hb, W⟩
  · exact absurd h0 ht
  · obtain ⟨b1, b2, b3⟩ := rest_max T rest (T.top c) W.lrest htop
    rw [← hb] at b1 b2 b3
    have hl1 := W.ltop
    have hl2 := (lvl_le h (W.neg first (by simp))).2
    have hl3 := h.ok.levn
    have hl4 := h.ok.len
    have hl5 := h.ok.n
    refine ⟨b1, by omega, fun hle i hi => ?_⟩
    obtain ⟨k, rfl⟩ : ∃ k : Nat, back = k := ⟨back.toNat, by omega⟩
    have hm : (first :: rest).getD i 0 ∈ first :: rest := getD_mem' 0 hi
    rw [back_val h (by omega) (W.neg _ hm)]
    cases i with
    | zero =>
      rw [if_pos rfl, if_neg]
      show ¬ T.lvl first ≤ k
      omega
    | succ i =>
      have hi' : i < rest.length := by simpa using hi
      have hle2 : T.lvl ((first :: rest).getD (i + 1) 0) ≤ (k : Int) := b3 _ (getD_mem' 0 hi')
      rw [if_pos hle2, if_neg (by omega)]

theorem top_le {T : Trail} (h : Inv T) {c : List Int} (hn : ∀ y ∈ c, -y ∈ T.lits) : T.top c ≤ T.levels.length ∧ 0 ≤ T.top c := by
  obtain ⟨t1, t2, t3⟩ := top_fold T c 0
  unfold Trail.top
  refine ⟨?_, t1⟩
  rcases t3 with t3 | ⟨y, hy, t3⟩
  · omega
  · rw [← t3]; exact (lvl_le h (hn y hy)).2
theorem top_take (T : Trail) (c : List Int) {k : Nat} (hk : k < c.length) : T.top (c.take (k + 1)) = max (T.top (c.take k)) (T.lvl (c.getD k 0)) := by
  rw [take_snocI c k hk, top_snoc]
end Tr

section
variable {w w0 : World} {b : Nat} {T : Trail}

/-- From, of a conflict -/
theorem one_From_conf (h : One w0 w b T) (i : Tr.Inv T) (hh : T.held) {k : Nat} (hk : T.live k) (hn : ∀ y ∈ T.cl k, -y ∈ T.lits) :
    Calls Try.prog 11 #[.pointer (some ⟨b, 0, none⟩), .int .i64 (k : Int)] w fun e w' => ∃ (ac : Option Addr) (nc cc : Nat) (aa : Option Addr) (na ca : Nat) (C : List Int) (back : Int), e = .returned (.tuple #[.agg #[.slice ac nc cc, cI back, .slice aa na ca], .bool true]) ∧ nc = C.length ∧ Ints w' (.slice ac nc cc) C ∧ (∀ k, Value.blk (.slice ac nc cc) = some k → w.heap.size ≤ k) ∧ Only (fun _ => False) w w' ∧ Les T (T.liveTo T.cls.length) (Cnf.formL (T.cl k)) C back := by
  obtain ⟨hcl, hl⟩ := lesson_law i hh (live_among i.ok) hk hn
  refine (one_From h i.ok (k : Int)).mono fun e w' hq => ?_
  rcases hl with ⟨h0, h1, h2⟩ | ⟨h0, first, rest, at_, h1, W⟩
  · rw [h1] at hq
    obtain ⟨ho, rfl⟩ := hq
    refine ⟨none, 0, 0, none, 0, 0, [], 0, rfl, rfl, Ints.of_own (World.ownsRow_nil _ _ _ _) (fun x hx => by cases hx), (fun k hk => by simp [Value.blk] at hk), ho, .inl ⟨h0, rfl, rfl, fun hne => h2 fun e => ?_⟩⟩
    apply hne
    refine List.eq_nil_iff_forall_not_mem.2 fun y hy => ?_
    have := (Cnf.mem_formL _ _).1 hy
    rw [e] at this; cases this
  · rw [h1] at hq
    obtain ⟨ho, vc, va, rfl, R, RA, NC, -⟩ := hq
    obtain ⟨ac, cc, rfl, -, -⟩ := own_slice R
    obtain ⟨aa, ca, rfl, -, -⟩ := own_slice RA
    refine ⟨ac, _, cc, aa, _, ca, first :: rest, _, rfl, rfl, Ints.of_own R fun x hx => ?_, (fun k hk => NC k (blk_ownI R hk)), ho, .inr ⟨h0, first, rest, rfl, rfl, W⟩⟩
    have := i.ok.good.lit _ (W.neg x hx)
    have := i.ok.n
    unfold InI64; omega
theorem len_cons_none {a : Option Addr} {n c : Nat} : (Value.slice a n c) = Value.slice a n c := rfl

set_option maxRecDepth 100000 in
set_option maxHeartbeats 6400000 in
theorem LearnTeaches_walk {w : World} {z : Int} (hz : 0 ≤ z ∧ z ≤ 255) {vcs vd : Value} {css : List (List Int)} {ls : List Int} (hI : IntsS w vcs css) (hR : ∀ c ∈ css, c.length ≤ 17592186043904) (hD : Ints w vd ls) :
    Calls Try.prog 5 #[.int .u8 z, vcs, vd] w fun e w' => e = .returned (.bool true) ∧ Only (fun _ => False) w w' := by
  obtain ⟨r, hr⟩ : ∃ r, greatL css ls = r := ⟨_, rfl⟩
  have hG := learn_Great_any hI hD r hr
  obtain ⟨ac, cc, rfl, _, _⟩ := hI.shape
  obtain ⟨ad, cd, rfl, _, _⟩ := hD.shape
  obtain ⟨N, hN⟩ : ∃ N : Nat, z % 41 = (N : Int) := ⟨(z % 41).toNat, by omega⟩
  have hN40 : N ≤ 40 := by omega
  obtain ⟨hz1, hz2⟩ := hz
  have HG := Lib.hid hG
  have HN := Lib.hid hN
  clear hG
  cases r with
  | true =>
    clear hI hD hr HN
    go_enter Try.func5, Try.ntmps5
    go_wp2_with fail
    refine HG.out.mono ?_
    rintro e w1 ⟨rfl, rfl⟩
    go_wp2_with fail
    refine (learn_fixed_any _).mono ?_
    rintro e w1 ⟨rfl, O1⟩
    go_wp2_with fail
    go_ret
    exact ⟨rfl, O1⟩
  | false =>
    obtain ⟨g1, g2, g3⟩ := greatL_no hr
    have HI := Lib.hid hI
    clear hI hr g3
    go_enter Try.func5, Try.ntmps5
    go_wp2_with fail
    refine HG.out.mono ?_
    rintro e w1 ⟨rfl, rfl⟩
    rw [HN.out]
    go_wp2_with fail
    refine (one_New w (N : Int) (by unfold InI64; omega) N (by omega)).mono ?_
    rintro e w1 ⟨b, rfl, H1⟩
    have hRun := learn_Run_any (by omega) H1 HI.out hR (by omega) hD (by omega)
    have HRun := Lib.hid hRun
    clear hRun hD HG H1
    go_wp2_with fail
    refine HRun.out.mono ?_
    rintro e w2 ⟨r, T, rfl, H2, hT⟩
    have hrg := hT.range
    have hon2 := H2.on
    have HO := Lib.hid hT.has.inv.ok
    have HT := Lib.hid hT
    have HSt := Lib.hid H2
    have HTr := Lib.hid H2
    clear H2 HRun HI
    rcases hT.end_ with ⟨rfl, -, -⟩ | ⟨k, rfl, hlive, hneg⟩
    · have hls : T.lesson (-1) = none := by
        unfold Trail.lesson Trail.clauseL Trail.there
        simp
      have hF := one_From HSt.out HO.out (-1)
      rw [hls] at hF
      have HF := Lib.hid hF
      clear hls hF hT
      go_wp2_with fail
      refine HF.out.mono ?_
      rintro e w3 ⟨O3, rfl⟩
      have hon3 := hon2.same O3
      clear O3
      go_wp2_with fail
      refine (learn_fixed_any _).mono ?_
      rintro e w4 ⟨rfl, O4⟩
      have c1 : (w3.alloc (.cells #[nilS, cI 0, nilS] 29)).cell? ⟨w3.heap.size, 0, none⟩ = some nilS := by simp
      have c4 := cell_keep c1 O4 (fun f => f)
      go_wp2_with fail
      go_ret
      exact ⟨rfl, (hon3.alloc _).same O4⟩
    · have hinv := hT.has.inv
      have hF := one_From_conf HSt.out hinv (hinv.held_of hT.has.whole) hlive hneg
      have hcla := clauseL_live hlive
      obtain ⟨c, hc⟩ : ∃ c, Cnf.formL (T.cl k) = c := ⟨_, rfl⟩
      have hcn : ∀ y ∈ c, -y ∈ T.lits := fun y hy => hneg y ((Cnf.mem_formL _ y).1 (by rw [hc]; exact hy))
      rw [hc] at hF hcla
      have hcl2 := clauseL_ok HO.out hcla
      have hclen := hcl2.2
      have HF := Lib.hid hF
      have HCla := Lib.hid hcla
      have HCn := Lib.hid hcn
      have d1 : decide ((k : Int) < 0) = false := decide_eq_false (by omega)
      have HInv := Lib.hid hinv
      clear hF hcla hc hcn hcl2 hT hlive hneg hinv
      go_wp2_with fail
      refine HF.out.mono ?_
      rintro e w3 ⟨xa, xn, xc, aa, na, ca, C, back, rfl, hxn, I3, hblk, O3, hL⟩
      subst hxn
      obtain ⟨xb, hxb⟩ : ∃ xb, w3.heap.size = xb := ⟨_, rfl⟩
      obtain ⟨w4, hw4⟩ : ∃ w4, w3.alloc (.cells #[.slice xa C.length xc, cI back, .slice aa na ca] 29) = w4 := ⟨_, rfl⟩
      have O4 : Only (fun _ => False) w3 w4 := by rw [← hw4]; exact (Only.refl _ _).alloc _
      have hb4 : w4.heap[xb]? = some (.cells #[.slice xa C.length xc, cI back, .slice aa na ca] 29 (0, 0)) := by rw [← hw4, ← hxb]; exact heap_alloc_new _ _
      have h4 := HSt.out.quiet (O3.same O4)
      have hon4 := h4.on
      have hCl := hL.len HInv.out
      have hn := HO.out.n
      have hTn := HT.out.has.hn
      have hC40 : C.length ≤ 40 := by omega
      have HH4 := Lib.hid h4
      have HB4 := Lib.hid hb4
      have HIC := Lib.hid (I3.only0 O4)
      have HL := Lib.hid hL
      have hIs := I3.shape
      have hxc : C.length ≤ xc := by obtain ⟨_, _, h1, h2, _⟩ := hIs; simp only [Value.slice.injEq] at h1; omega
      have HBlk := Lib.hid hblk
      have HO24 := Lib.hid (O3.same O4)
      have hxb2 : w2.heap.size ≤ xb := by rw [← hxb]; exact O3.size
      clear h4 hb4 I3 hL O3 HF HSt hIs hTn hn hCl hblk
      have hcl4 := one_Clause HH4.out HO.out (k : Int)
      rw [HCla.out] at hcl4
      have HCl4 := Lib.hid hcl4
      clear hcl4
      have hwb : w3.alloc (.cells #[.slice xa C.length xc, cI back, .slice aa na ca] 29) = w4 := hw4
      go_wp2_with fail
      refine HCl4.out.mono ?_
      rintro e w5 ⟨ao, cap, rfl, R5, N5, O5⟩
      have h5 := HH4.out.quiet O5
      have hon5 := h5.on
      have HB5 := Lib.hid (only_block HB4.out O5 (fun f => f))
      have HO25 := Lib.hid (HO24.out.same O5)
      have q0 : w5.cell? ⟨xb, 0, none⟩ = some (.slice xa C.length xc) := by rw [cell_block HB5.out]; rfl
      have q1 : w5.cell? ⟨xb, 1, none⟩ = some (.int .i64 back) := by rw [cell_block HB5.out]; rfl
      have HH5 := Lib.hid h5
      have hwb2 : w3.heap.size = xb := hxb
      clear h5 R5 N5 HCl4
      -- where nothing is taught
      have hnone : ∀ (W : World), Only (fun _ => False) w5 W → c.length = 0 ∨ T.levels.length = 0 → C = [] ∧ back = 0 := fun W _ h => by
        refine HL.out.none_ ?_
        have htl := top_le HInv.out HCn.out
        rcases h with h | h
        · have : c = [] := List.eq_nil_of_length_eq_zero h
          rw [this]; rfl
        · omega
      have HNone := Lib.hid hnone
      clear hnone
      by_cases c0 : c.length = 0
      · have e0 : c = [] := List.eq_nil_of_length_eq_zero c0
        obtain ⟨rfl, rfl⟩ := HNone.out _ (Only.refl _ _) (.inl c0)
        subst e0
        clear hw4 hwb hxb hwb2
        go_wp2_with fail
        refine (learn_fixed_any _).mono ?_
        rintro e w6 ⟨rfl, O6⟩
        have p0 := cell_keep q0 O6 (fun f => f)
        have p1 := cell_keep q1 O6 (fun f => f)
        clear q0 q1
        go_wp2_with fail
        go_ret
        exact ⟨rfl, hon5.same O6⟩
      have dc0 : (c.length == 0) = false := by rw [beq_eq_false_iff_ne]; exact c0
      have dc0' : ((c.length : Int) == 0) = false := by rw [beq_eq_false_iff_ne]; omega
      by_cases l0 : T.levels.length = 0
      · obtain ⟨rfl, rfl⟩ := HNone.out _ (Only.refl _ _) (.inr l0)
        have hlv := one_Level HH5.out
        rw [l0] at hlv
        have HLv := Lib.hid hlv
        clear hw4 hwb hxb hwb2 l0 hlv
        go_wp2_with fail
        refine HLv.out.mono ?_
        rintro e w6 ⟨rfl, rfl⟩
        go_wp2_with fail
        refine (learn_fixed_any _).mono ?_
        rintro e w6 ⟨rfl, O6⟩
        have p0 := cell_keep q0 O6 (fun f => f)
        have p1 := cell_keep q1 O6 (fun f => f)
        clear q0 q1
        go_wp2_with fail
        go_ret
        exact ⟨rfl, hon5.same O6⟩
      have dl0 : (T.levels.length == 0) = false := by rw [beq_eq_false_iff_ne]; exact l0
      have dl0' : ((T.levels.length : Int) == 0) = false := by rw [beq_eq_false_iff_ne]; omega
      have HLv := Lib.hid (one_Level HH5.out)
      clear hw4 hwb hxb hwb2 l0
      go_wp2_with fail
      refine HLv.out.mono ?_
      rintro e w6 ⟨rfl, rfl⟩
      have hcl5 := fun W (h : One w W b T) => one_Clause h HO.out (k : Int)
      rw [HCla.out] at hcl5
      have HCl5 := Lib.hid hcl5
      obtain ⟨w6, hw6⟩ : ∃ w6, w5.alloc (.cells #[] 3) = w6 := ⟨_, rfl⟩
      obtain ⟨bg, hbg⟩ : ∃ bg, w5.heap.size = bg := ⟨_, rfl⟩
      have O6 : Only (fun _ => False) w5 w6 := by rw [← hw6]; exact (Only.refl _ _).alloc _
      have rg6 : w6.ownsRow 0 3 1 (.slice (some ⟨bg, 0, none⟩) 0 0) 0 [] := by rw [← hw6, ← hbg]; exact own_lit0 w5
      have h6 := HH5.out.quiet O6
      have hcl6 := HCl5.out w6 h6
      have HCl6 := Lib.hid hcl6
      have HR6 := Lib.hid rg6
      have HH6 := Lib.hid h6
      have hbgw : w5.heap.size ≤ bg := by omega
      clear HLv dc0 dc0' hcl6 h6 rg6 HCl5 q0 q1
      go_wp2_with fail
      refine HCl6.out.mono ?_
      rintro e w7 ⟨ao2, cap2, rfl, R7, N7, O7⟩
      have h7 := HH6.out.quiet O7
      have hcr : ∀ y ∈ c, InI64 y := fun y hy => by
        have := HO.out.good.lit _ (HCn.out y hy)
        have := HO.out.n
        unfold InI64; omega
      have I7 := Ints.of_own R7 hcr
      have HI7 := Lib.hid I7
      have HH7 := Lib.hid h7
      have HO57 := Lib.hid (O6.same O7)
      have HR7 := Lib.hid (own_only HR6.out O7 (fun _ _ f => f))
      clear R7 N7 O7 h7 I7 hcr HCl6 HR6 HH6 O6 hw6 hbg
      have ht0 : T.top (c.take 0) = 0 := rfl
      go_wp2_with fail
      go_loopw [89, 12] (fun v vt wr => ∃ j : Nat, v = .int .i64 j ∧ j ≤ c.length ∧ vt = .int .i64 (T.top (c.take j)) ∧ Only (fun _ => False) w7 wr) (fun v _ _ => c.length - (intOf v).toNat)
      case atStart => exact ⟨0, rfl, Nat.zero_le _, rfl, Only.refl _ _⟩
      case round =>
        obtain ⟨j, rfl, hj, rfl, hO7⟩ := hrel
        have h8 := HH7.out.quiet hO7
        by_cases cj : j < c.length
        · obtain ⟨bl, ol, he, _, hls⟩ := (HI7.out.only0 hO7).cells _ _ _ rfl (by omega)
          obtain rfl := Option.some.inj he
          have q := hls j cj
          obtain ⟨u, hu⟩ : ∃ u, c.getD j 0 = u := ⟨_, rfl⟩
          have hum : u ∈ c := by rw [← hu]; exact getD_mem' 0 cj
          have ul : Cnf.Lit u := by
            have := HO.out.good.lit _ (HCn.out u hum)
            have := HO.out.n
            exact lit_of (by omega) (by omega)
          have HA := Lib.hid (Atom_any (w := wr) u ul.r ul.w)
          have hat := one_At h8 HO.out (u.natAbs : Int) (natAbs_in ul.r ul.w) _ (at_lit ul.r ul.w)
          have htk := top_take T c cj
          obtain ⟨M, hM⟩ : ∃ M, T.lvl u = M := ⟨_, rfl⟩
          obtain ⟨tp, htp⟩ : ∃ tp, T.top (c.take j) = tp := ⟨_, rfl⟩
          have hMr := HO.out.lvl_rng u
          rw [hM] at hat hMr
          rw [hu] at q htk
          rw [hM, htp] at htk
          rw [htp]
          have ewj : IntKind.i64.wrap ((j : Int) + 1) = ((j + 1 : Nat) : Int) := by rw [IntWalk.i64_in _ (by omega)]; rfl
          have HAt := Lib.hid hat
          have HTk := Lib.hid htk
          clear hat htk hM htp hls hu hum ul h8 ht0
          generalize u.natAbs = ua at *
          go_wp2_with fail
          refine HA.out.mono ?_
          rintro e w8 ⟨rfl, rfl⟩
          go_wp2_with fail
          refine HAt.out.mono ?_
          rintro e w8 ⟨rfl, O8⟩
          have hO8 := hO7.same O8
          obtain ⟨mx, hmx⟩ : ∃ mx, max tp M = mx := ⟨_, rfl⟩
          have HMx := Lib.hid hmx
          clear O8 HA HAt
          go_wp2_with fail
          go_roundw
          case rel => exact ⟨j + 1, by first | rfl | go_num, by omega, by rw [HTk.out, HMx.out], hO8⟩
          case measure => simp [intOf]; omega
        · obtain rfl : j = c.length := by omega
          rw [List.take_of_length_le (Nat.le_refl _)]
          obtain ⟨tp, htp⟩ : ∃ tp, T.top c = tp := ⟨_, rfl⟩
          rw [htp]
          have HTp := Lib.hid htp
          have hO57 := HO57.out.same hO7
          have hb8 := only_block HB5.out hO57 (fun f => f)
          have q0 : wr.cell? ⟨xb, 0, none⟩ = some (.slice xa C.length xc) := by rw [cell_block hb8]; rfl
          have hrg8 := own_only HR7.out hO7 (fun _ _ f => f)
          have hls := fun i (hi : i < C.length) => HL.out.at_ HInv.out hi
          rw [htp] at hls
          have HLs := Lib.hid hls
          have HIC5 := Lib.hid (HIC.out.only0 O5)
          have HSt8 := Lib.hid (And.intro hrg8 hO57)
          have hbt := backTo_zero T C
          have HBt := Lib.hid hbt
          clear htp h8 hrg8 ht0 HR7 hb8 hls hbt
          generalize wr = w8 at *
          go_wp2_with fail
          go_loopw [107, 18, 13] (fun v vb vg wr => ∃ i : Nat, v = .int .i64 i ∧ i ≤ C.length ∧ vb = .int .i64 (T.backTo' C i) ∧ wr.ownsRow 0 3 1 vg i (((C.take i).map fun y => -y).map cI) ∧ (∀ k, vg.ownBlock = some k → w5.heap.size ≤ k) ∧ Only (fun _ => False) w5 wr) (fun v _ _ _ => C.length - (intOf v).toNat)
          case atStart =>
            exact ⟨0, rfl, Nat.zero_le _, by rw [HBt.out], HSt8.out.1, (fun k hk => by simp [Value.ownBlock] at hk; omega), HSt8.out.2⟩
          case round =>
            clear HSt8 HBt q0 hO7 hO57
            obtain ⟨i, rfl, hi, rfl, hrow, hnew, hO5r⟩ := hrel
            have hr1 := HH5.out.quiet hO5r
            have hbr := only_block HB5.out hO5r (fun f => f)
            have p0 : wr.cell? ⟨xb, 0, none⟩ = some (.slice xa C.length xc) := by rw [cell_block hbr]; rfl
            have p1 : wr.cell? ⟨xb, 1, none⟩ = some (.int .i64 back) := by rw [cell_block hbr]; rfl
            have HRow := Lib.hid hrow
            have HNew := Lib.hid hnew
            have HOne := Lib.hid hr1
            have HO5r := Lib.hid hO5r
            clear hrow hnew hbr
            by_cases ci : i < C.length
            · obtain ⟨bl, ol, rfl, _, hcs⟩ := (HIC5.out.only0 hO5r).cells _ _ _ rfl (by omega)
              have q := hcs i ci
              have L := HLs.out i ci
              have hts := take_snocI C i ci
              have hb0 := backTo_one T C
              have hbs := fun h0 => backTo_succ T C (i := i) h0 ci
              obtain ⟨u, hu⟩ : ∃ u, C.getD i 0 = u := ⟨_, rfl⟩
              rw [hu] at q L hts hbs
              have hlit := HO.out.good.lit _ L.neg
              have hn := HO.out.n
              have ul : Cnf.Lit u := lit_of (by omega) (by omega)
              have HA := Lib.hid (Atom_any (w := wr) u ul.r ul.w)
              have hat := one_At hr1 HO.out (u.natAbs : Int) (natAbs_in ul.r ul.w) _ (at_lit ul.r ul.w)
              have hfirst := L.first
              obtain ⟨M, hM⟩ : ∃ M, T.lvl u = M := ⟨_, rfl⟩
              have hMr := HO.out.lvl_rng u
              obtain ⟨bk, hbk⟩ : ∃ bk, T.backTo' C i = bk := ⟨_, rfl⟩
              rw [hM] at hat hMr hfirst hbs
              rw [hbk] at hbs
              rw [hbk]
              have HAt := Lib.hid hat
              have HL1 := Lib.hid L
              have HBs := Lib.hid hbs
              have HB0 := Lib.hid hb0
              have HTs := Lib.hid hts
              have HFirst := Lib.hid hfirst
              have HUl := Lib.hid ul
              have HBk := Lib.hid hbk
              have ewi : IntKind.i64.wrap ((i : Int) + 1) = ((i + 1 : Nat) : Int) := by rw [IntWalk.i64_in _ (by omega)]; rfl
              have hvu := fun W (ho : Only (fun _ => False) w5 W) => (one_Value (HH5.out.quiet ho) HO.out u ul.r (-1) (HO.out.neg1.2 L.neg)).mono fun _ _ h => (⟨h.1, h.2.symm⟩ : _ ∧ _ = W)
              have HVu := Lib.hid hvu
              have hau := fun W => (Atom_any (w := W) u ul.r ul.w).mono fun _ _ h => (⟨h.1, h.2.symm⟩ : _ ∧ _ = W)
              have HAu := Lib.hid hau
              have HCs := Lib.hid hcs
              have hnu : IntKind.i64.wrap (-u) = -u := by rw [IntWalk.i64_in _ (by omega)]
              clear hat L hbs hb0 hts hfirst ul hbk hvu hau hcs hM hu hlit hr1 hO5r
              go_wp2_with fail
              refine HA.out.mono ?_
              rintro e w9 ⟨rfl, rfl⟩
              go_wp2_with fail
              refine HAt.out.mono ?_
              rintro e w9 ⟨rfl, O9⟩
              have hO9 := HO5r.out.same O9
              have HO9 := Lib.hid hO9
              have p0' := cell_keep p0 O9 (fun f => f)
              have q' := cell_keep q O9 (fun f => f)
              have hq1 := fun (h0 : 0 < i) => cell_keep (HCs.out (i - 1) (by omega)) O9 (fun f => f)
              have HQ1 := Lib.hid hq1
              have HRow9 := Lib.hid (own_only HRow.out O9 (fun _ _ f => f))
              clear O9 hO9 hq1 p0 p1 q HA HAt HOne HRow
              go_upto_region 25 with fail
              go_cut [146] (fun v wx => v = .bool false ∧ Only (fun _ => False) w9 wx)
              case first =>
                by_cases i0 : i = 0
                · subst i0
                  have hMt : (M == tp) = true := by rw [HFirst.out]; rfl
                  clear HQ1
                  go_wp2_with fail
                  refine (HVu.out _ HO9.out).mono ?_
                  rintro e w10 ⟨rfl, rfl⟩
                  go_wp2_with fail
                  go_meet
                  exact ⟨rfl, Only.refl _ _⟩
                · have hMt : (M == tp) = false := by rw [HFirst.out]; simpa using i0
                  have di0 : (i == 0) = false := by simpa using i0
                  have di0' : ((i : Int) == 0) = false := by rw [beq_eq_false_iff_ne]; omega
                  by_cases i1 : i = 1
                  · subst i1
                    clear HQ1
                    go_wp2_with fail
                    refine (HVu.out _ HO9.out).mono ?_
                    rintro e w10 ⟨rfl, rfl⟩
                    go_wp2_with fail
                    go_meet
                    exact ⟨rfl, Only.refl _ _⟩
                  · have d1i : decide (1 < i) = true := decide_eq_true (by omega)
                    have d1i' : decide ((1 : Int) < (i : Int)) = true := decide_eq_true (by omega)
                    have hlt := HL1.out.ord (by omega)
                    have hpl := HL1.out.prev (by omega)
                    have q1 := HQ1.out (by omega)
                    obtain ⟨p, hpe⟩ : ∃ p, C.getD (i - 1) 0 = p := ⟨_, rfl⟩
                    rw [hpe] at hlt hpl q1
                    have hap := fun W => (Atom_any (w := W) p hpl.r hpl.w).mono fun _ _ h => (⟨h.1, h.2.symm⟩ : _ ∧ _ = W)
                    have HAp := Lib.hid hap
                    have ek1 : IntKind.i64.wrap ((i : Int) - 1) = ((i - 1 : Nat) : Int) := by rw [IntWalk.i64_in _ (by omega)]; omega
                    clear hpe hap hpl HQ1
                    generalize u.natAbs = ua at *
                    generalize p.natAbs = pa at *
                    have dlt : decide (ua ≤ pa) = false := decide_eq_false (by omega)
                    go_wp2_with fail
                    refine (HVu.out _ HO9.out).mono ?_
                    rintro e w10 ⟨rfl, rfl⟩
                    go_wp2_with fail
                    refine (HAp.out _).mono ?_
                    rintro e w10 ⟨rfl, rfl⟩
                    go_wp2_with fail
                    refine (HAu.out _).mono ?_
                    rintro e w10 ⟨rfl, rfl⟩
                    go_wp2_with fail
                    go_meet
                    exact ⟨rfl, Only.refl _ _⟩
              case rest =>
              obtain ⟨rfl, O10⟩ := hcut
              have HO10 := Lib.hid (HO9.out.same O10)
              have HRow10 := Lib.hid (own_only HRow9.out O10 (fun _ _ f => f))
              clear O10 HRow9 HQ1 q' p0'
              have hbk2 : T.backTo' C (i + 1) = if i = 0 then 0 else max bk M := by
                by_cases i0 : i = 0
                · subst i0; rw [if_pos rfl]; exact HB0.out
                · rw [if_neg i0]; exact HBs.out (by omega)
              have HBk2 := Lib.hid hbk2
              clear hbk2 HBs HB0 HFirst
              by_cases i0 : i = 0
              · subst i0
                have hb00 : bk = 0 := by rw [← HBk.out]; exact backTo_zero T C
                subst hb00
                go_wp2_with (at_builtin; go_must (refine wpA1 (u := .int .i64 (-u)) slInt rfl (.tmp 152) (.tmp 155) rfl rfl rfl (cell_new0 _ _ _) rfl (own_only HRow10.out ((Only.refl (fun _ => False) _).alloc _) (fun _ _ f => f)) (by omega) (by decide) ?_))
                intro v2 w11 s1 s2 s3
                have O11 : Only (fun _ => False) w5 w11 := (HO10.out.alloc _).trans s2 (fun k hk => .inr (HNew.out k hk))
                have hn2 : ∀ k, v2.ownBlock = some k → w5.heap.size ≤ k := by
                  obtain ⟨g, cap, rfl, _, _, h⟩ := s3
                  intro k hk
                  simp [Value.ownBlock] at hk
                  subst hk
                  rcases h with h | h
                  · exact HNew.out _ h
                  · have := HO10.out.size; simp at h; omega
                have s1' : w11.ownsRow 0 3 1 v2 (0 + 1) (((C.take (0 + 1)).map fun y => -y).map cI) := by
                  rw [HTs.out, List.map_append, List.map_append]
                  simpa [cI] using s1
                have HFin := Lib.hid (And.intro s1' (And.intro hn2 O11))
                clear s1 s2 s3 s1' hn2 O11
                go_wp2_with fail
                go_roundw
                case rel => exact ⟨1, by first | rfl | go_num, by omega, by rw [HBk2.out]; rfl, HFin.out.1, HFin.out.2.1, HFin.out.2.2⟩
                case measure => simp [intOf]; omega
              · have di0 : decide (0 < i) = true := decide_eq_true (by omega)
                have di0' : decide ((0 : Int) < (i : Int)) = true := decide_eq_true (by omega)
                obtain ⟨mx, hmx⟩ : ∃ mx, max bk M = mx := ⟨_, rfl⟩
                have HMx := Lib.hid hmx
                go_wp2_with (at_builtin; go_must (refine wpA1 (u := .int .i64 (-u)) slInt rfl (.tmp 152) (.tmp 155) rfl rfl rfl (cell_new0 _ _ _) rfl (own_only HRow10.out ((Only.refl (fun _ => False) _).alloc _) (fun _ _ f => f)) (by omega) (by decide) ?_))
                intro v2 w11 s1 s2 s3
                have O11 : Only (fun _ => False) w5 w11 := (HO10.out.alloc _).trans s2 (fun k hk => .inr (HNew.out k hk))
                have hn2 : ∀ k, v2.ownBlock = some k → w5.heap.size ≤ k := by
                  obtain ⟨g, cap, rfl, _, _, h⟩ := s3
                  intro k hk
                  simp [Value.ownBlock] at hk
                  subst hk
                  rcases h with h | h
                  · exact HNew.out _ h
                  · have := HO10.out.size; simp at h; omega
                have s1' : w11.ownsRow 0 3 1 v2 (i + 1) (((C.take (i + 1)).map fun y => -y).map cI) := by
                  rw [HTs.out, List.map_append, List.map_append]
                  simpa [cI] using s1
                have HFin := Lib.hid (And.intro s1' (And.intro hn2 O11))
                clear s1 s2 s3 s1' hn2 O11 hmx
                go_wp2_with fail
                go_roundw
                case rel => exact ⟨i + 1, by first | rfl | go_num, by omega, by rw [HBk2.out, if_neg i0, HMx.out], HFin.out.1, HFin.out.2.1, HFin.out.2.2⟩
                case measure => simp [intOf]; omega
            · obtain rfl : i = C.length := by omega
              rw [HL.out.end_]
              rw [List.take_of_length_le (Nat.le_refl _)] at HRow
              have hCr : ∀ y ∈ (C.map fun y => -y), InI64 y := fun y hy => by
                obtain ⟨x, hx, rfl⟩ := List.mem_map.1 hy
                obtain ⟨i, hi, e⟩ := List.getElem_of_mem hx
                have L := HLs.out i hi
                have e2 : C.getD i 0 = x := by simp [List.getD_eq_getElem?_getD, hi, e]
                have h1 := HO.out.good.lit _ L.neg
                rw [e2] at h1
                have := HO.out.n
                unfold InI64; omega
              have hrow2 : wr.ownsRow 0 3 1 u13 (C.map fun y => -y).length ((C.map fun y => -y).map cI) := by simpa using HRow.out
              have IA := Ints.of_own hrow2 hCr
              obtain ⟨ag, cg, hvg, _, _⟩ := IA.shape
              subst hvg
              have hlive := learn_live_any HOne.out HO.out
              have HLive := Lib.hid hlive
              have HIA := Lib.hid IA
              clear hlive hCr hrow2 IA HRow HNew
              go_wp2_with fail
              refine HLive.out.mono ?_
              rintro e w9 ⟨vc, rfl, IC, O9⟩
              have hle := liveTo_len T T.cls.length
              have hcb : T.cls.length ≤ 120 := by
                have := HT.out.has.len; omega
              have hTn := HT.out.has.hn
              have hAll := All_any (HIA.out.only0 O9) IC (fun c hc y hy => by
                have hg := (live_cls HO.out hc).1.lit y hy
                have := HO.out.n
                exact lit_of hg.1 (by omega)) N (by
                  have : (N + 1) * (T.liveTo T.cls.length).length ≤ 41 * 120 := Nat.mul_le_mul (by omega) (by omega)
                  simp only [List.length_map]; omega) (by omega) (N : Int) rfl
              have hconf := HL.out.conf_ HInv.out hTn (fun c hc => by rw [← hTn]; exact good_cls (live_cls HO.out hc).1) (fun e => c0 (by rw [e]; rfl))
              obtain ⟨p, hp⟩ : ∃ p, Cnf.allR (T.liveTo T.cls.length) (N + 1) (C.map fun y => -y) = p := ⟨_, rfl⟩
              rw [hp] at hAll hconf
              obtain ⟨S, cf⟩ := p
              simp only at hconf
              subst hconf
              have HAll := Lib.hid hAll
              have h9 := HOne.out.quiet O9
              have hO59 := HO5r.out.same O9
              have HH9 := Lib.hid h9
              have HO59 := Lib.hid hO59
              obtain ⟨ac2, cc2, rfl, _, _⟩ := IC.shape
              clear hAll h9 hO59 IC HLive hle hp p0 p1 hTn hcb O9
              simp only [List.length_map] at HAll
              go_wp2_with fail
              refine HAll.out.mono ?_
              rintro e w10 ⟨va, rfl, R10, N10, O10⟩
              obtain ⟨a10, c10, rfl, -, -⟩ := own_slice R10
              have hO10 := HO59.out.same O10
              have hb10 := only_block HB5.out hO10 (fun f => f)
              have p0 : w10.cell? ⟨xb, 0, none⟩ = some (.slice xa C.length xc) := by rw [cell_block hb10]; rfl
              have p1 : w10.cell? ⟨xb, 1, none⟩ = some (.int .i64 back) := by rw [cell_block hb10]; rfl
              have h10 := HH9.out.quiet O10
              have HH10 := Lib.hid h10
              have HO10 := Lib.hid hO10
              have HB10 := Lib.hid hb10
              clear R10 N10 O10 hO10 hb10 h10 HH9 HAll
              by_cases t0 : tp = 0
              · obtain ⟨hC0, hb0⟩ := HL.out.none_ (by rw [HTp.out]; exact t0)
                subst t0
                subst hC0
                subst hb0
                go_wp2_with fail
                refine (learn_fixed_any _).mono ?_
                rintro e w11 ⟨rfl, O11⟩
                have p2 := cell_keep p1 O11 (fun f => f)
                have hon := HH10.out.on.same O11
                clear p0 p1
                go_wp2_with fail
                go_ret
                exact ⟨rfl, hon⟩
              · have dt0 : (tp == 0) = false := by rw [beq_eq_false_iff_ne]; exact t0
                have hC0 : C.length ≠ 0 := fun e => by
                  rcases HL.out with ⟨h, _⟩ | ⟨_, first, rest, rfl, _⟩
                  · rw [HTp.out] at h; exact t0 h
                  · simp at e
                have dC : (C.length == 0) = false := by rw [beq_eq_false_iff_ne]; exact hC0
                have dC' : ((C.length : Int) == 0) = false := by rw [beq_eq_false_iff_ne]; omega
                obtain ⟨b1, b2, b3⟩ := HL.out.back_ HInv.out (by rw [HTp.out]; exact t0)
                have hbv := b3 (top_le HInv.out HCn.out).1
                have HBv := Lib.hid hbv
                obtain ⟨g, V, Hg, hm, hfr⟩ := HTr.out
                have hO210 := HO25.out.same HO10.out
                have hop := prop_Back_any (Hg.only0 hO210) HInv.out back (by unfold InI64; omega)
                have HOp := Lib.hid hop
                have HHg := Lib.hid (Hg.only0 hO210)
                have HM := Lib.hid hm
                have hfresh : ∀ k, w2.heap.size ≤ k → ¬ Mine g k := fun k hk hM => hM (Hg.fresh k hk)
                have HFresh := Lib.hid hfresh
                have HO2 := Lib.hid hO210
                have hon10 := HH10.out.on
                clear hbv hop hm hfresh hO210 hfr Hg b3 hC0
                go_wp2_with fail
                refine HOp.out.mono ?_
                rintro e w11 ⟨rfl, g', V', H', A', O11⟩
                have h11 : One w w11 b (T.back back) := One.op HHg.out HM.out hon10 ⟨g', V', H', A', O11⟩
                have hb11 := only_block HB10.out O11 (HFresh.out xb (by omega))
                have p2 : w11.cell? ⟨xb, 0, none⟩ = some (.slice xa C.length xc) := by rw [cell_block hb11]; rfl
                have IC11 : Ints w11 (.slice xa C.length xc) C := (HIC5.out.only0 HO10.out).only O11 (fun k hk => HFresh.out k (HBlk.out k hk))
                have ho11 := (HInv.out.back back).ok
                have HH11 := Lib.hid h11
                have HIC11 := Lib.hid IC11
                have HOk11 := Lib.hid ho11
                clear H' A' O11 hb11 h11 IC11 ho11 HOp p0 p1 HB10 HH10 HHg
                go_wp2_with fail
                go_loopw [198] (fun v wr => ∃ i : Nat, v = .int .i64 i ∧ i ≤ C.length ∧ w11 = wr) (fun v _ => C.length - (intOf v).toNat)
                case atStart => exact ⟨0, rfl, Nat.zero_le _, rfl⟩
                case round =>
                  obtain ⟨i, rfl, hi, rfl⟩ := hrel
                  by_cases ci : i < C.length
                  · obtain ⟨bl, ol, rfl, _, hcs⟩ := HIC11.out.cells _ _ _ rfl (by omega)
                    have q := hcs i ci
                    have hy := HIC11.out.range' i
                    have hv := HBv.out i ci
                    obtain ⟨y, hye⟩ : ∃ y, C.getD i 0 = y := ⟨_, rfl⟩
                    rw [hye] at q hy hv
                    have ewi : IntKind.i64.wrap ((i : Int) + 1) = ((i + 1 : Nat) : Int) := by rw [IntWalk.i64_in _ (by omega)]; rfl
                    clear hcs hye
                    by_cases i0 : i = 0
                    · subst i0
                      rw [if_pos rfl] at hv
                      simp only [Nat.add_zero] at q
                      have HVal := Lib.hid (one_Value HH11.out HOk11.out y hy 0 hv)
                      clear hv
                      go_wp2_with fail
                      refine HVal.out.mono ?_
                      rintro e w12 ⟨rfl, rfl⟩
                      go_wp2_with fail
                      go_roundw
                      case rel => exact ⟨1, by first | rfl | go_num, by omega, by first | rfl | trivial⟩
                      case measure => simp [intOf]; omega
                    · rw [if_neg i0] at hv
                      have HVal := Lib.hid (one_Value HH11.out HOk11.out y hy (-1) hv)
                      have di0 : (i == 0) = false := by simpa using i0
                      have di0' : ((i : Int) == 0) = false := by rw [beq_eq_false_iff_ne]; omega
                      have di1 : decide (0 < i) = true := decide_eq_true (by omega)
                      have di1' : decide ((0 : Int) < (i : Int)) = true := decide_eq_true (by omega)
                      clear hv
                      go_wp2_with fail
                      refine HVal.out.mono ?_
                      rintro e w12 ⟨rfl, rfl⟩
                      go_wp2_with fail
                      go_roundw
                      case rel => exact ⟨i + 1, by first | rfl | go_num, by omega, by first | rfl | trivial⟩
                      case measure => simp [intOf]; omega
                  · obtain rfl : i = C.length := by omega
                    go_wp2_with fail
                    refine (learn_fixed_any _).mono ?_
                    rintro e w12 ⟨rfl, O12⟩
                    have hon := HH11.out.on.same O12
                    go_wp2_with fail
                    go_ret
                    exact ⟨rfl, hon⟩
end
end Go.Proofs.Ytjedgdamommgeaa

/- The walk of cooperlaw19.LearnSame. -/
import Derived.Test.YtjedgdamommgeaaLrnL3
set_option linter.unusedVariables false
namespace Go.Proofs.Ytjedgdamommgeaa
open Go.RowKit
open Tr

namespace Tr
open Cnf Up

theorem Les.model {T : Trail} (h : Inv T) {D : List (List Int)} {c C : List Int} {back : Int} (L : Les T D c C back) (hne : c ≠ []) (hlit : ∀ c ∈ D, ∀ x ∈ c, Cnf.Lit x) {m : List Bool} (hm : holdsB D m = true) : holdsB [C] m = true := by
  rcases L with ⟨_, rfl, _, h2⟩ | ⟨_, first, rest, rfl, _, W⟩
  · exact absurd (h2 hne) (Rup.conf_not hlit (fun x hx => by cases hx) (Rup.holds_sat hm))
  · exact taught_model h W hlit hm

/-- is there an empty one among the first i? -/
def Trail.clLen (T : Trail) (i : Nat) : Nat := match T.clauseL (i : Int) with
  | some c => c.length
  | none => 0
def Trail.emptyTo (T : Trail) (i : Nat) : Bool := (List.range i).any fun j => T.clLen j == 0
theorem emptyTo_succ (T : Trail) (i : Nat) : T.emptyTo (i + 1) = (T.emptyTo i || T.clLen i == 0) := by
  unfold Trail.emptyTo; rw [List.range_succ, List.any_append]; simp
theorem emptyTo_no {T : Trail} {n k : Nat} (h : T.emptyTo n = false) (hk : k < n) {c : List Int} (hc : T.clauseL (k : Int) = some c) : c ≠ [] := by
  unfold Trail.emptyTo at h
  rw [List.any_eq_false] at h
  have := h k (List.mem_range.2 hk)
  intro e
  apply this
  unfold Trail.clLen
  rw [hc, e]; rfl
end Tr

section
variable {w w0 : World} {b : Nat} {T : Trail}

theorem one_From_none (h : One w0 w b T) (o : Ok T) : Calls Try.prog 11 #[.pointer (some ⟨b, 0, none⟩), .int .i64 (-1)] w fun e w' => e = .returned (.tuple #[.agg #[nilS, cI 0, nilS], .bool false]) ∧ Only (fun _ => False) w w' := by
  have hls : T.lesson (-1) = none := by
    unfold Trail.lesson Trail.clauseL Trail.there
    simp
  have hF := one_From h o (-1)
  rw [hls] at hF
  exact hF.mono fun e w' ⟨h1, h2⟩ => ⟨h2, h1⟩
theorem intsS_one {w : World} {v : Value} {C : List Int} (hI : Ints w v C) : IntsS (w.alloc (.cells #[v] 23)) (.slice (some ⟨w.heap.size, 0, none⟩) 1 1) [C] := by
  have h1 : (w.alloc (.cells #[v] 23)).ownsRow 0 23 1 (.slice (some ⟨w.heap.size, 0, none⟩) 1 1) ([v] : List Value).length [v] :=
    World.ownsRow_lit (base := 0) (e := 23) (size := 1) w #[v] 1 (Nat.zero_le _) (by unfold maxLen; omega) (by simp)
  refine ⟨[v], Cells.of_own h1, rfl, fun i hi => ?_⟩
  obtain rfl : i = 0 := by simpa using hi
  exact hI.only0 ((Only.refl _ _).alloc _)

set_option maxRecDepth 100000 in
set_option maxHeartbeats 6400000 in
theorem LearnSame_walk {w : World} {z : Int} (hz : 0 ≤ z ∧ z ≤ 255) {vcs vd : Value} {css : List (List Int)} {ls : List Int} (hI : IntsS w vcs css) (hR : ∀ c ∈ css, c.length ≤ 17592186043904) (hD : Ints w vd ls) :
    Calls Try.prog 3 #[.int .u8 z, vcs, vd] w fun e w' => e = .returned (.bool true) ∧ Only (fun _ => False) w w' := by
  obtain ⟨r, hr⟩ : ∃ r, greatL css ls = r := ⟨_, rfl⟩
  have hG := learn_Great_any hI hD r hr
  obtain ⟨ac, cc, rfl, _, _⟩ := hI.shape
  obtain ⟨ad, cd, rfl, _, _⟩ := hD.shape
  obtain ⟨N, hN⟩ : ∃ N : Nat, z % 10 = (N : Int) := ⟨(z % 10).toNat, by omega⟩
  have hN9 : N ≤ 9 := by omega
  obtain ⟨hz1, hz2⟩ := hz
  have HG := Lib.hid hG
  have HN := Lib.hid hN
  clear hG
  cases r with
  | true =>
    clear hI hD hr HN
    go_enter Try.func3, Try.ntmps3
    go_wp2_with fail
    refine HG.out.mono ?_
    rintro e w1 ⟨rfl, rfl⟩
    go_wp2_with fail
    refine (learn_fixed_any _).mono ?_
    rintro e w1 ⟨rfl, O1⟩
    go_wp2_with fail
    go_ret
    exact ⟨rfl, O1⟩
  | false =>
    obtain ⟨g1, g2, g3⟩ := greatL_no hr
    by_cases h1 : 80 < css.length
    · have d1 : decide (80 < css.length) = true := decide_eq_true h1
      clear hI hD hr HN g3
      go_enter Try.func3, Try.ntmps3
      go_wp2_with fail
      refine HG.out.mono ?_
      rintro e w1 ⟨rfl, rfl⟩
      go_wp2_with fail
      refine (learn_fixed_any _).mono ?_
      rintro e w1 ⟨rfl, O1⟩
      go_wp2_with fail
      go_ret
      exact ⟨rfl, O1⟩
    have d1 : decide (80 < css.length) = false := decide_eq_false h1
    have HI := Lib.hid hI
    clear hI hr g3
    go_enter Try.func3, Try.ntmps3
    go_wp2_with fail
    refine HG.out.mono ?_
    rintro e w1 ⟨rfl, rfl⟩
    rw [HN.out]
    go_wp2_with fail
    refine (one_New w (N : Int) (by unfold InI64; omega) N (by omega)).mono ?_
    rintro e w1 ⟨b, rfl, H1⟩
    have hRun := learn_Run_any (by omega) H1 HI.out hR (by omega) hD (by omega)
    have HRun := Lib.hid hRun
    clear hRun hD HG H1
    go_wp2_with fail
    refine HRun.out.mono ?_
    rintro e w2 ⟨r, T, rfl, H2, hT⟩
    have hrg := hT.range
    have hon2 := H2.on
    have HO := Lib.hid hT.has.inv.ok
    have HSt := Lib.hid H2
    clear H2 HRun HI
    rcases hT.end_ with ⟨rfl, -, -⟩ | ⟨k, rfl, hlive, hneg⟩
    · have HF := Lib.hid (one_From_none HSt.out HO.out)
      clear hT
      go_wp2_with fail
      refine HF.out.mono ?_
      rintro e w3 ⟨rfl, O3⟩
      have hon3 := hon2.same O3
      clear O3
      go_wp2_with fail
      refine (learn_fixed_any _).mono ?_
      rintro e w4 ⟨rfl, O4⟩
      go_wp2_with fail
      go_ret
      exact ⟨rfl, (hon3.alloc _).same O4⟩
    · have hinv := hT.has.inv
      have hF := one_From_conf HSt.out hinv (hinv.held_of hT.has.whole) hlive hneg
      have hcla := clauseL_live hlive
      obtain ⟨c, hc⟩ : ∃ c, Cnf.formL (T.cl k) = c := ⟨_, rfl⟩
      rw [hc] at hF hcla
      have hkl := hlive.1
      have hTn := hT.has.hn
      have hTc := hT.has.len
      have HF := Lib.hid hF
      have HCla := Lib.hid hcla
      have HInv := Lib.hid hinv
      have HTn := Lib.hid hTn
      clear hF hcla hc hT hlive hneg hinv hTn
      go_wp2_with fail
      refine HF.out.mono ?_
      rintro e w3 ⟨xa, xn, xc, aa, na, ca, C, back, rfl, hxn, I3, hblk, O3, hL⟩
      subst hxn
      obtain ⟨xb, hxb⟩ : ∃ xb, w3.heap.size = xb := ⟨_, rfl⟩
      obtain ⟨w4, hw4⟩ : ∃ w4, w3.alloc (.cells #[.slice xa C.length xc, cI back, .slice aa na ca] 29) = w4 := ⟨_, rfl⟩
      have O4 : Only (fun _ => False) w3 w4 := by rw [← hw4]; exact (Only.refl _ _).alloc _
      have hb4 : w4.heap[xb]? = some (.cells #[.slice xa C.length xc, cI back, .slice aa na ca] 29 (0, 0)) := by rw [← hw4, ← hxb]; exact heap_alloc_new _ _
      have h4 := HSt.out.quiet (O3.same O4)
      have hCl := hL.len HInv.out
      have hn := HO.out.n
      have HH4 := Lib.hid h4
      have HB4 := Lib.hid hb4
      have HIC := Lib.hid (I3.only0 O4)
      have HL := Lib.hid hL
      have hlive4 := learn_live_any h4 HO.out
      have HLive4 := Lib.hid hlive4
      clear h4 hb4 I3 hL O3 O4 HF HSt hlive4 hblk
      go_wp2_with fail
      refine HLive4.out.mono ?_
      rintro e w5 ⟨vl, rfl, IL5, O5⟩
      have h5 := HH4.out.quiet O5
      obtain ⟨D, hDe⟩ : ∃ D, T.liveTo T.cls.length = D := ⟨_, rfl⟩
      have hlit : ∀ d ∈ D, ∀ x ∈ d, Cnf.Lit x := fun d hd x hx => by
        rw [← hDe] at hd
        have hg := (live_cls HO.out hd).1.lit x hx
        exact lit_of hg.1 (by omega)
      rw [hDe] at IL5 HL
      have hmodel := fun (hne : c ≠ []) (m : List Bool) (hm : Cnf.holdsB D m = true) => HL.out.model HInv.out hne hlit hm
      have HModel := Lib.hid hmodel
      have HIL5 := Lib.hid IL5
      have HH5 := Lib.hid h5
      have HIC5 := Lib.hid (HIC.out.only0 O5)
      have HB5 := Lib.hid (only_block HB4.out O5 (fun f => f))
      have HCls := Lib.hid (one_Clauses h5)
      obtain ⟨alv, clv, rfl, _, _⟩ := IL5.shape
      have he0 : T.emptyTo 0 = false := rfl
      clear IL5 h5 hmodel hlit hDe O5 HLive4 HH4 HB4 HIC hw4 hxb HL
      go_wp2_with fail
      refine HCls.out.mono ?_
      rintro e w6 ⟨rfl, rfl⟩
      go_wp2_with fail
      go_loopw [47, 12] (fun v ve wr => ∃ j : Nat, v = .int .i64 j ∧ j ≤ T.cls.length ∧ ve = .bool (T.emptyTo j) ∧ Only (fun _ => False) w5 wr) (fun v _ _ => T.cls.length - (intOf v).toNat)
      case atStart => exact ⟨0, rfl, Nat.zero_le _, rfl, Only.refl _ _⟩
      case round =>
        obtain ⟨j, rfl, hj, rfl, hO⟩ := hrel
        by_cases cj : j < T.cls.length
        · have hes := emptyTo_succ T j
          have ewj : IntKind.i64.wrap ((j : Int) + 1) = ((j + 1 : Nat) : Int) := by rw [IntWalk.i64_in _ (by omega)]; rfl
          obtain ⟨ej, hej⟩ : ∃ ej, T.emptyTo j = ej := ⟨_, rfl⟩
          rw [hej] at hes ⊢
          cases ej with
          | true =>
            simp only [Bool.true_or] at hes
            have HEs := Lib.hid hes
            clear hes hej he0
            go_wp2_with fail
            go_roundw
            case rel => exact ⟨j + 1, by first | rfl | go_num, by omega, by rw [HEs.out], hO⟩
            case measure => simp [intOf]; omega
          | false =>
            simp only [Bool.false_or] at hes
            have hC := one_Clause (HH5.out.quiet hO) HO.out (j : Int)
            unfold Trail.clLen at hes
            obtain ⟨cl, hcl⟩ : ∃ cl, T.clauseL (j : Int) = cl := ⟨_, rfl⟩
            rw [hcl] at hC hes
            have HC := Lib.hid hC
            cases cl with
            | none =>
              have HEs := Lib.hid hes
              clear hes hej he0 hcl hC
              go_wp2_with fail
              refine HC.out.mono ?_
              rintro e w7 ⟨rfl, rfl⟩
              go_wp2_with fail
              go_roundw
              case rel => exact ⟨j + 1, by first | rfl | go_num, by omega, by rw [HEs.out]; rfl, hO⟩
              case measure => simp [intOf]; omega
            | some d =>
              simp only at hes
              obtain ⟨q, hq⟩ : ∃ q, (d.length == 0) = q := ⟨_, rfl⟩
              rw [hq] at hes
              have HEs := Lib.hid hes
              have hq' : ((d.length : Int) == 0) = q := by rw [← hq]; cases hx : d.length <;> simp []; omega
              clear hes hej he0 hcl hC
              go_wp2_with fail
              refine HC.out.mono ?_
              rintro e w7 ⟨ao, cap, rfl, R7, N7, O7⟩
              have hO7 := hO.same O7
              clear R7 N7 O7
              go_wp2_with fail
              go_roundw
              case rel => exact ⟨j + 1, by first | rfl | go_num, by omega, by rw [HEs.out], hO7⟩
              case measure => simp [intOf]; omega
        · obtain rfl : j = T.cls.length := by omega
          obtain ⟨em, hem⟩ : ∃ em, T.emptyTo T.cls.length = em := ⟨_, rfl⟩
          rw [hem]
          have hcne : em = false → c ≠ [] := fun h => emptyTo_no (hem.trans h) hkl HCla.out
          have HCne := Lib.hid hcne
          have hP : 2 ^ N ≤ 512 := Nat.pow_le_pow_right (by decide) hN9
          obtain ⟨P, hPe⟩ : ∃ P, 2 ^ N = P := ⟨_, rfl⟩
          rw [hPe] at hP
          have hPI : (2 : Int) ^ N = (P : Int) := by rw [← hPe]; push_cast; rfl
          have HPI := Lib.hid hPI
          have hO0 := hO
          have HO0 := Lib.hid hO
          clear hem hcne he0 hPe hPI hO
          generalize wr = w6 at *
          have hsh : IntKind.i64.wrap (2 ^ N) = (P : Int) := by rw [HPI.out, IntWalk.i64_in _ (by omega)]
          go_wp2_with fail
          go_loopw [61] (fun v wr => ∃ a : Nat, v = .int .i64 a ∧ a ≤ P ∧ Only (fun _ => False) w6 wr) (fun v _ => P - (intOf v).toNat)
          case atStart => exact ⟨0, rfl, Nat.zero_le _, Only.refl _ _⟩
          case round =>
            obtain ⟨a, rfl, ha, hOa⟩ := hrel
            by_cases ca : a < P
            · have ewa : IntKind.i64.wrap ((a : Int) + 1) = ((a + 1 : Nat) : Int) := by rw [IntWalk.i64_in _ (by omega)]; rfl
              generalize wr = wa at *
              go_wp2_with (at_make; go_must (refine wpM (bytes := 1) (z := .bool false) Try.underlying36 (by kernel_rfl) rfl rfl _ _ rfl N rfl rfl rfl rfl (by omega) (by decide) ?_))
              intro w7 t1 t2 t3
              obtain ⟨g, hg⟩ : ∃ g, wa.heap.size = g := ⟨_, rfl⟩
              rw [hg] at t1 ⊢
              have t1' : w7.ownsRow 0 4 1 (.slice (some ⟨g, 0, none⟩) N N) N ((List.replicate N false).map Value.bool) := by rw [List.map_replicate]; exact t1
              have HSt7 := Lib.hid (And.intro t1' t2)
              have hgw : wa.heap.size ≤ g := Nat.le_of_eq hg
              clear t1 t2 t3 t1' hg
              go_wp2_with fail
              go_loopw [68] (fun v wr => ∃ (i : Nat) (bs : List Bool), v = .int .i64 i ∧ i ≤ N ∧ bs.length = N ∧ wr.ownsRow 0 4 1 (.slice (some ⟨g, 0, none⟩) N N) N (bs.map Value.bool) ∧ Only (fun _ => False) wa wr) (fun v _ => N - (intOf v).toNat)
              case atStart => exact ⟨0, _, rfl, Nat.zero_le _, by simp, HSt7.out.1, HSt7.out.2⟩
              case round =>
                clear HSt7
                obtain ⟨i, bs, rfl, hi, hbl, hB, hOi⟩ := hrel
                have HBl := Lib.hid hbl
                by_cases ci : i < N
                · obtain ⟨uo, hcel⟩ : ∃ uo, wr.cell? ⟨g, i, none⟩ = some uo := by
                    refine ⟨(bs.map Value.bool)[i]'(by simp; omega), ?_⟩
                    rw [hB.cellAt i (by simp only [Nat.mul_one]; omega)]
                    exact List.getElem?_eq_getElem (by simp; omega)
                  have hfr := hB.frozenAt i
                  have hsto := fun (u : Bool) => (hB.stored i (.bool u)).1
                  have hO' := fun (u : Bool) => (hOi.setCell (p := ⟨g, i, none⟩) (.inr hgw) (.bool u))
                  have HSto := Lib.hid hsto
                  have HO' := Lib.hid hO'
                  have ewi : IntKind.i64.wrap ((i : Int) + 1) = ((i + 1 : Nat) : Int) := by rw [IntWalk.i64_in _ (by omega)]; rfl
                  clear hsto hO' hbl hB
                  go_wp2_with fail
                  go_roundw
                  case rel => exact ⟨i + 1, bs.set i _, by first | rfl | go_num, by omega, by simp [HBl.out], by simpa [List.map_set] using HSto.out _, HO'.out _⟩
                  case measure => simp [intOf]; omega
                · have hbo : Bools wr (.slice (some ⟨g, 0, none⟩) N N) bs := Bools.of_own (t := 4) (by rw [HBl.out]; exact hB)
                  have HBo := Lib.hid hbo
                  have hOw := HO0.out.same (hOa.same hOi)
                  have hOwa := hOa.same hOi
                  obtain rfl : i = N := by omega
                  clear hbo hB hbl
                  cases em with
                  | true =>
                    go_wp2_with fail
                    go_roundw
                    case rel => exact ⟨a + 1, by first | rfl | go_num, by omega, hOwa⟩
                    case measure => simp [intOf]; omega
                  | false =>
                    cases hh : Cnf.holdsB D bs with
                    | false =>
                      have HHo := Lib.hid (Holds_any (HIL5.out.only0 hOw) HBo.out false hh)
                      clear hh
                      go_wp2_with fail
                      refine HHo.out.mono ?_
                      rintro e w8 ⟨rfl, rfl⟩
                      go_wp2_with fail
                      go_roundw
                      case rel => exact ⟨a + 1, by first | rfl | go_num, by omega, hOwa⟩
                      case measure => simp [intOf]; omega
                    | true =>
                      have HHo := Lib.hid (Holds_any (HIL5.out.only0 hOw) HBo.out true hh)
                      have hm2 := HModel.out (HCne.out rfl) bs hh
                      have HM2 := Lib.hid hm2
                      have hbr := only_block HB5.out hOw (fun f => f)
                      have p0 : wr.cell? ⟨xb, 0, none⟩ = some (.slice xa C.length xc) := by rw [cell_block hbr]; rfl
                      clear hh hm2 hbr
                      have hOw4 : Only (fun _ => False) w5 wr := hOw
                      have hic := intsS_one (HIC5.out.only0 hOw4)
                      have hbo2 := HBo.out.only0 ((Only.refl (fun _ => False) wr).alloc (.cells #[.slice xa C.length xc] 23))
                      have hho2 := Holds_any hic hbo2 true HM2.out
                      have HHo2 := Lib.hid hho2
                      clear hic hbo2 hho2 hOw4
                      go_wp2_with fail
                      refine HHo.out.mono ?_
                      rintro e w8 ⟨rfl, rfl⟩
                      go_wp2_with fail
                      refine HHo2.out.mono ?_
                      rintro e w8 ⟨rfl, rfl⟩
                      go_wp2_with fail
                      go_roundw
                      case rel => exact ⟨a + 1, by first | rfl | go_num, by omega, hOwa.alloc _⟩
                      case measure => simp [intOf]; omega
            · obtain rfl : a = P := by omega
              go_wp2_with fail
              refine (learn_fixed_any _).mono ?_
              rintro e w8 ⟨rfl, O8⟩
              have hon := HH5.out.on.same (HO0.out.same hOa)
              go_wp2_with fail
              go_ret
              exact ⟨rfl, hon.same O8⟩
end
end Go.Proofs.Ytjedgdamommgeaa

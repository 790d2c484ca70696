/- The walk of cooperlaw22.RupSolves. -/
import Derived.Test.YtjedgdamommgeaaGreatSol23
set_option linter.unusedVariables false
namespace Go.Proofs.YtjedgdamommgeaaGreat
open Go.RowKit
open Tr
def SolvedR (w w2 : World) (b n : Nat) (css : List (List Int)) (qs : List Int) (e : Ending) (w' : World) : Prop :=
 ∃ S2 a cs, Sv.Proved n css S2.proof a ∧ (∀ core k, a = .unsat core k → (∀ x ∈ core, x ∈ qs) ∧ core.length ≤ qs.length) ∧ e = .returned (.agg cs) ∧ AnsAt w2 w' a cs ∧ NewSv w b S2 w'
theorem solvedR_any {w w1 : World} {b n : Nat} (hn : n ≤ 30) {css : List (List Int)} (hb : css.length ≤ 80) (hr : ∀ c ∈ css, ∀ x ∈ c, InI64 x) (h : NewSv w b ((Sv.St.new n).addAll css) w1) {v : Value} {qs : List Int} (hI : Ints w v qs) (hqb : qs.length ≤ 30) (has : ∀ a ∈ qs, a ≠ 0 ∧ a.natAbs ≤ n) :
  Calls Tryz.prog 14 #[.pointer (some ⟨b, 0, none⟩), v, .int .i64 300] w1 (SolvedR w w1 b n css qs) := by
 refine (ask_any h (by omega) (by omega) hr hI (by omega) has 300 (by unfold InI64; omega) (by omega) (.inl (by omega))).mono ?_
 rintro e w' ⟨S2, a, cs, h1, h2, h3, h4⟩
 have hF := Sv.Fresh.addAll (n := n) (by omega) css hr (by omega)
 refine ⟨S2, a, cs, first_proof hn (by omega) hr has h1, fun core k e => ?_, h2, h3, h4⟩
 have hri := (hF.right has (by omega) (by omega) h1).2
 subst e
 exact ⟨hri.2.1, nodup_sub_len hri.1 hri.2.1⟩
section
variable {w : World}
theorem proves_true {n : Nat} {css : List (List Int)} {P : List (Bool × List Int)} {core : List Int} {k : Int} (h : Sv.Proved n css P (.unsat core k)) {f : List Int} (hf : Cnf.form (core.map fun x => -x) = some f) : Rup.provesB n css P (core.map fun x => -x) = true := by
 obtain ⟨C, hC⟩ := h.run
 obtain ⟨p, hp, h1, h2⟩ := h.goal core k rfl f hf
 unfold Rup.provesB
 rw [Rup.run_bad _ _ _ 0 hC, if_neg (by omega), List.any_eq_true]
 refine ⟨p, hp, ?_⟩
 rw [h1]
 simp only [Bool.not_false, Bool.true_and, List.all_eq_true, List.contains_iff_mem]
 exact fun x hx => h2 x hx
set_option maxRecDepth 100000 in
set_option maxHeartbeats 12800000 in
theorem RupSolves_walk {z : Int} (hz : 0 ≤ z ∧ z ≤ 255) {vcs vd : Value} {css : List (List Int)} {qs : List Int} (hI : IntsS w vcs css) (hD : Ints w vd qs) :
  Calls Tryz.prog 8 #[.int .u8 z, vcs, vd] w fun e w' => e = .returned (.bool true) ∧ Only (fun _ => False) w w' := by
 obtain ⟨hz1, hz2⟩ := hz
 obtain ⟨ac, cc, rfl, -, -⟩ := hI.shape
 obtain ⟨ad, cd, rfl, -, -⟩ := hD.shape
 obtain ⟨n, hn⟩ : ∃ n : Nat, z % 31 = (n : Int) := ⟨(z % 31).toNat, by omega⟩
 have hn30 : n ≤ 30 := by omega
 have tm : z.tmod 31 = (n : Int) := by rw [Int.tmod_eq_emod_of_nonneg hz1]; exact hn
 have hr := hI.range
 cases hg : greatB css [] with
 | true =>
  have HG := Lib.hid (great_any hI (StepsAt.nil w) true hg)
  clear hI hD hr
  go_enter Tryz.func8, Tryz.ntmps8
  go_wp2_with fail
  refine HG.out.mono ?_
  rintro e w1 ⟨rfl, O1⟩
  go_wp2_with fail
  refine rup_fixed_any.mono ?_
  rintro e w2 ⟨rfl, O2⟩
  go_wp2_with fail
  go_ret
  exact ⟨rfl, O1.same O2⟩
 | false =>
  obtain ⟨g1, -, g3, -⟩ := greatB_le hg
  have HG := Lib.hid (great_any hI (StepsAt.nil w) false hg)
  by_cases hq : 30 < qs.length
  ·have d3 : decide ((30 : Int) < (qs.length : Int)) = true := decide_eq_true (by omega)
   clear hI hD hr
   go_enter Tryz.func8, Tryz.ntmps8
   go_wp2_with fail
   refine HG.out.mono ?_
   rintro e w1 ⟨rfl, O1⟩
   go_wp2_with fail
   refine rup_fixed_any.mono ?_
   rintro e w2 ⟨rfl, O2⟩
   go_wp2_with fail
   go_ret
   exact ⟨rfl, O1.same O2⟩
  ·have d3 : decide ((30 : Int) < (qs.length : Int)) = false := decide_eq_false (by omega)
   have HI := Lib.hid hI
   have HD := Lib.hid hD
   have HR := Lib.hid hr
   have HG3 := Lib.hid g3
   clear hI hD hr g3 hg
   go_enter Tryz.func8, Tryz.ntmps8
   go_wp2_with fail
   refine HG.out.mono ?_
   rintro e w1 ⟨rfl, O1⟩
   have HO1 := Lib.hid O1
   clear O1 HG
   go_wp2_with fail
   go_loopw [30] (fun v wr => w1 = wr ∧ ∃ j : Nat, v = .int .i64 j ∧ j ≤ qs.length ∧ ∀ x ∈ qs.take j, x ≠ 0 ∧ x.natAbs ≤ n) (fun v _ => qs.length - (intOf v).toNat)
   case atStart => exact ⟨rfl, 0, rfl, Nat.zero_le _, by simp⟩
   case round =>
    obtain ⟨rfl, j, rfl, hj, hA⟩ := hrel
    have HA := Lib.hid hA
    clear hA
    by_cases cj : j < qs.length
    ·obtain ⟨bl, ol, rfl, _, hcs⟩ := (HD.out.only0 HO1.out).cells _ _ _ rfl (by omega)
     have qx := hcs j cj
     have hx := HD.out.range' j
     obtain ⟨x, hxe⟩ : ∃ x, qs.getD j 0 = x := ⟨_, rfl⟩
     have htk := take_snocI qs j cj
     rw [hxe] at qx hx htk
     have HTk := Lib.hid htk
     have ewj : IntKind.i64.wrap ((j : Int) + 1) = ((j + 1 : Nat) : Int) := by rw [IntWalk.i64_in _ (by omega)]; rfl
     clear hcs hxe htk
     by_cases hw : Cnf.wr x = true
     ·have HN := Lib.hid (None_any (w := w1) x hx true hw)
      go_wp2_with fail
      refine HN.out.mono ?_
      rintro e w2 ⟨rfl, rfl⟩
      go_wp2_with fail
      refine rup_fixed_any.mono ?_
      rintro e w2 ⟨rfl, O2⟩
      go_wp2_with fail
      go_ret
      exact ⟨rfl, HO1.out.same O2⟩
     ·have hw : Cnf.wr x = false := by simpa using hw
      have HN := Lib.hid (None_any (w := w1) x hx false hw)
      have HAt := Lib.hid (Atom_any (w := w1) x hx hw)
      have h0 : x ≠ 0 := by
       intro e; subst e; revert hw; decide
      clear hw hx
      by_cases hgt : n < x.natAbs
      ·have dg : decide ((n : Int) < (x.natAbs : Int)) = true := decide_eq_true (by omega)
       have dg2 : decide (n < x.natAbs) = true := decide_eq_true hgt
       go_wp2_with fail
       refine HN.out.mono ?_
       rintro e w2 ⟨rfl, rfl⟩
       go_wp2_with fail
       refine HAt.out.mono ?_
       rintro e w2 ⟨rfl, rfl⟩
       go_wp2_with fail
       refine rup_fixed_any.mono ?_
       rintro e w2 ⟨rfl, O2⟩
       go_wp2_with fail
       go_ret
       exact ⟨rfl, HO1.out.same O2⟩
      ·have dg : decide ((n : Int) < (x.natAbs : Int)) = false := decide_eq_false (by omega)
       have dg2 : decide (n < x.natAbs) = false := decide_eq_false hgt
       have hnew : ∀ y ∈ qs.take (j + 1), y ≠ 0 ∧ y.natAbs ≤ n := fun y hy => by
        rw [HTk.out] at hy
        rcases List.mem_append.1 hy with h | h
        ·exact HA.out y h
        ·rw [List.mem_singleton] at h; subst h; exact ⟨h0, by omega⟩
       have HNew := Lib.hid hnew
       clear hnew
       go_wp2_with fail
       refine HN.out.mono ?_
       rintro e w2 ⟨rfl, rfl⟩
       go_wp2_with fail
       refine HAt.out.mono ?_
       rintro e w2 ⟨rfl, rfl⟩
       go_wp2_with fail
       go_roundw
       case rel => exact ⟨by first | rfl | trivial, j + 1, by first | rfl | go_num, by omega, HNew.out⟩
       case measure => simp [intOf] <;> omega
    ·have hjl : j = qs.length := by omega
     subst hjl
     have has := HA.out
     rw [List.take_of_length_le (Nat.le_refl _)] at has
     have HAs := Lib.hid has
     clear has HA
     have hI1 := HI.out.only0 HO1.out
     have hD1 := HD.out.only0 HO1.out
     have HNw := Lib.hid (solve_New_any w1 (n : Int) (by unfold InI64; omega) n (by omega) hI1 (by omega) (fun c hc => by have := HG3.out c hc; omega))
     have HI1 := Lib.hid hI1
     have HD1 := Lib.hid hD1
     clear hI1 hD1 HI HD
     go_wp2_with fail
     refine HNw.out.mono ?_
     rintro e w2 ⟨b, rfl, h2⟩
     have HS := Lib.hid (solvedR_any hn30 g1 HR.out h2 HD1.out (by omega) HAs.out)
     clear h2 HNw
     go_wp2_with fail
     refine HS.out.mono ?_
     rintro e w3 ⟨S2, a, cs, hp, hcq, rfl, h3, h4⟩
     obtain ⟨B, hB⟩ : ∃ B, w3.heap.size = B := ⟨_, rfl⟩
     obtain ⟨wA, hwA⟩ : ∃ wA, w3.alloc (.cells #[.int .u8 0, nilS, nilS, .int .i64 0] 30) = wA := ⟨_, rfl⟩
     have hbA : wA.heap[B]? = some (.cells #[.int .u8 0, nilS, nilS, .int .i64 0] 30 (0, 0)) := by rw [← hwA, ← hB]; exact heap_alloc_new _ _
     obtain ⟨w4, hw4⟩ : ∃ w4, wA.setRow B cs = w4 := ⟨_, rfl⟩
     have hb4 : w4.heap[B]? = some (.cells cs 30 (0, 0)) := by rw [← hw4]; exact setRow_heap _ _ _ _ _ _ hbA
     have o4 : Only (fun _ => False) w3 w4 := by rw [← hw4, ← hwA]; exact ((Only.refl _ _).alloc _).trans (only_setRow _ _ _) (fun k hk => .inr (by omega))
     have hN4 := h4.only0 o4
     have hon4 : Only (fun _ => False) w w4 := (HO1.out.same h4.on).same o4
     have hI4 := HI1.out.only0 hN4.on
     have hpl : ∀ p ∈ S2.proof, p.2.length ≤ 17592186043904 := fun p hp2 => by have := hp.small p hp2; omega
     have hpf := hN4.proof (by have := hp.len; omega) hpl
     have HPf := Lib.hid hpf
     have HP := Lib.hid hp
     have HN4 := Lib.hid hN4
     have HON4 := Lib.hid hon4
     have HI4 := Lib.hid hI4
     have HBA := Lib.hid hbA
     have HB4 := Lib.hid hb4
     have HO4 := Lib.hid o4
     have HA3 := Lib.hid h3
     have HCq := Lib.hid hcq
     have hchk : ∀ W v, Only (fun _ => False) w4 W → StepsAt W v S2.proof → Calls Tryz.prog 31 #[.int .i64 (n : Int), .slice ac css.length cc, v] W fun e w' => e = .returned (.int .i64 (-1)) ∧ Only (fun _ => False) W w' := fun W v hW hv => by
      obtain ⟨C, hC⟩ := hp.run
      have := rup_Check_any (HI4.out.only0 hW) hv (by omega) (fun c hc => by have := HG3.out c hc; omega) (by have := hp.len; omega) (fun p hp2 => by have := hp.small p hp2; omega) (n : Int) n (by omega)
      rw [Rup.run_bad _ _ _ 0 hC] at this
      exact this
     have HChk := Lib.hid hchk
     clear hpf hp hN4 hon4 hI4 hbA hb4 o4 h3 h4 hcq hpl hchk HS
     cases a with
     | sat m met =>
      obtain ⟨vm, rfl, r3, n3⟩ := HA3.out
      obtain ⟨am, cm, rfl, -, -⟩ := own_slice r3
      clear r3 n3
      go_wp2_with ((refine wpList_store_row rfl 30 (.tmp 11) (.tmp 49) rfl B #[.int .u8 1, .slice am m.length cm, nilS, .int .i64 met] rfl rfl 30 #[.int .u8 0, nilS, nilS, .int .i64 0] HBA.out (by kernel_rfl) rfl (by first | kernel_rfl | rfl | simp [Value.oneCell']) ?_); rw [hw4])
      refine HPf.out.mono ?_
      rintro e w5 ⟨v, rfl, hS5, O5⟩
      obtain ⟨av, cv, rfl, -, -⟩ := hS5.shape
      have HK5 := Lib.hid (HChk.out w5 _ O5 hS5)
      have HO5 := Lib.hid O5
      clear hS5 O5
      go_wp2_with fail
      refine HK5.out.mono ?_
      rintro e w6 ⟨rfl, O6⟩
      have o46 : Only (fun _ => False) w4 w6 := HO5.out.same O6
      have hb6 := only_block HB4.out o46 (fun f => f)
      have q0 : w6.cell? ⟨B, 0, none⟩ = some (.int .u8 1) := by rw [cell_block hb6]; rfl
      have HO46 := Lib.hid o46
      clear hb6 O6 o46
      go_wp2_with fail
      refine rup_fixed_any.mono ?_
      rintro e w7 ⟨rfl, O7⟩
      go_wp2_with fail
      go_ret
      exact ⟨rfl, (HON4.out.same HO46.out).same O7⟩
     | unsat core met =>
      obtain ⟨vc, rfl, r3, n3⟩ := HA3.out
      obtain ⟨am, cm, rfl, -, -⟩ := own_slice r3
      have hcr : ∀ x ∈ core, x ≠ 0 ∧ x.natAbs ≤ n := fun x hx => HAs.out x ((HCq.out core met rfl).1 x hx)
      have hcI : ∀ x ∈ core, InI64 x := fun x hx => by have := hcr x hx; unfold InI64; omega
      have hI3 : Ints w3 (.slice am core.length cm) core := Ints.of_own r3 hcI
      have HI3 := Lib.hid hI3
      have HCr := Lib.hid hcr
      clear r3 n3 hI3 hcr hcI
      go_wp2_with ((refine wpList_store_row rfl 30 (.tmp 11) (.tmp 49) rfl B #[.int .u8 2, nilS, .slice am core.length cm, .int .i64 met] rfl rfl 30 #[.int .u8 0, nilS, nilS, .int .i64 0] HBA.out (by kernel_rfl) rfl (by first | kernel_rfl | rfl | simp [Value.oneCell']) ?_); rw [hw4])
      refine HPf.out.mono ?_
      rintro e w5 ⟨v, rfl, hS5, O5⟩
      obtain ⟨av, cv, rfl, -, -⟩ := hS5.shape
      have HK5 := Lib.hid (HChk.out w5 _ O5 hS5)
      have HO5 := Lib.hid O5
      clear hS5 O5
      go_wp2_with fail
      refine HK5.out.mono ?_
      rintro e w6 ⟨rfl, O6⟩
      have o46 : Only (fun _ => False) w4 w6 := HO5.out.same O6
      have hb6 := only_block HB4.out o46 (fun f => f)
      have q0 : w6.cell? ⟨B, 0, none⟩ = some (.int .u8 2) := by rw [cell_block hb6]; rfl
      have HO46 := Lib.hid o46
      have q2 : w6.cell? ⟨B, 2, none⟩ = some (.slice am core.length cm) := by rw [cell_block hb6]; rfl
      have hI6 := HI3.out.only0 (HO4.out.same o46)
      have HI6 := Lib.hid hI6
      have hcb : core.length ≤ 30 := Nat.le_trans (HCq.out core met rfl).2 (by omega)
      clear hb6 O6 o46 hI6
      go_wp2_with fail
      go_loopw [12, 63] (fun v12 v wr => ∃ (j : Nat) (ao : Option Addr) (co : Nat), v = .int .i64 j ∧ j ≤ core.length ∧ v12 = .slice ao j co ∧ wr.ownsRow 0 3 1 v12 j (((core.take j).map fun x => -x).map cI) ∧ (∀ k, v12.ownBlock = some k → w6.heap.size ≤ k) ∧ Only (fun _ => False) w6 wr) (fun v12 v _ => core.length - (intOf v).toNat)
      case atStart => exact ⟨0, none, 0, rfl, Nat.zero_le _, rfl, World.ownsRow_nil _ _ _ _, fun k hk => by simp [Value.ownBlock] at hk, Only.refl _ _⟩
      case round =>
       obtain ⟨j, ao, co, rfl, hj, rfl, hrow, hnew, hO⟩ := hrel
       by_cases cj : j < core.length
       ·obtain ⟨bl, ol, rfl, _, hcs⟩ := (HI6.out.only0 hO).cells _ _ _ rfl (by omega)
        have qx := hcs j cj
        have hx := HCr.out _ (getD_mem' 0 cj)
        obtain ⟨x, hxe⟩ : ∃ x, core.getD j 0 = x := ⟨_, rfl⟩
        have htk := take_snocI core j cj
        rw [hxe] at qx hx htk
        have ewx : IntKind.i64.wrap (-x) = -x := IntWalk.i64_in _ (by omega)
        have ewj : IntKind.i64.wrap ((j : Int) + 1) = ((j + 1 : Nat) : Int) := by rw [IntWalk.i64_in _ (by omega)]; rfl
        have HRow := Lib.hid hrow
        have HNw := Lib.hid hnew
        have HO := Lib.hid hO
        have HTk := Lib.hid htk
        clear hcs hxe htk hrow hnew hO hx
        go_wp2_with (at_builtin; go_must (refine wpA1 (u := .int .i64 (-x)) slInt rfl (.tmp 67) (.tmp 70) rfl rfl rfl (cell_new0 _ _ _) rfl (own_only HRow.out ((Only.refl (fun _ => False) _).alloc _) (fun _ _ f => f)) (by omega) (by decide) ?_))
        intro v7 w7 r7 o7 t7
        obtain ⟨g7, c7, rfl, -, -, hg7⟩ := t7
        have hz : w7.ownsRow 0 3 1 (.slice (some ⟨g7, 0, none⟩) (j + 1) c7) (j + 1) (((core.take (j + 1)).map fun x => -x).map cI) := by
         rw [HTk.out]; simpa using r7
        have ho7 : Only (fun _ => False) w6 w7 := (HO.out.alloc (.cells #[.int .i64 (-x)] 3)).trans o7 (fun k hk => .inr (HNw.out k hk))
        have hn7 : ∀ k, (Value.slice (some ⟨g7, 0, none⟩) (j + 1) c7).ownBlock = some k → w6.heap.size ≤ k := fun k hk => by
         simp [Value.ownBlock] at hk
         subst hk
         rcases hg7 with h | h
         ·exact HNw.out _ h
         ·exact Nat.le_trans HO.out.size (by have := (Only.refl (fun _ => False) wr).alloc (.cells #[.int .i64 (-x)] 3) |>.size; omega)
        have HZ := Lib.hid (And.intro hz (And.intro hn7 ho7))
        clear hz hn7 ho7 r7 o7 hg7
        go_wp2_with fail
        go_roundw
        case rel => exact ⟨j + 1, some ⟨g7, 0, none⟩, c7, by first | rfl | go_num, by omega, rfl, HZ.out.1, HZ.out.2.1, HZ.out.2.2⟩
        case measure => simp [intOf] <;> omega
       ·have hjl : j = core.length := by omega
        subst hjl
        rw [List.take_of_length_le (Nat.le_refl _)] at hrow
        have hgI : ∀ x ∈ core.map (fun x => -x), InI64 x := fun x hx => by
         obtain ⟨y, hy, rfl⟩ := List.mem_map.1 hx
         have := HCr.out y hy
         unfold InI64; omega
        have hG : Ints wr (.slice ao core.length co) (core.map fun x => -x) := by
         have := Ints.of_own (xs := core.map fun x => -x) (by simpa using hrow) hgI
         exact this
        have hFo := RForm_any hG (by rw [List.length_map]; omega)
        unfold RFormPost at hFo
        have hN8 := HN4.out.only0 (HO46.out.same hO)
        have HG8 := Lib.hid hG
        have HO8 := Lib.hid (HO46.out.same hO)
        clear hG hrow hnew hO hgI
        cases hfm : Cnf.form (core.map fun x => -x) with
        | none =>
         rw [hfm] at hFo
         have HFo := Lib.hid hFo
         clear hFo hN8
         go_wp2_with fail
         refine HFo.out.mono ?_
         rintro e w8 ⟨vf, rfl, -, -, O8⟩
         go_wp2_with fail
         refine rup_fixed_any.mono ?_
         rintro e w9 ⟨rfl, O9⟩
         go_wp2_with fail
         go_ret
         exact ⟨rfl, ((HON4.out.same HO8.out).same O8).same O9⟩
        | some f =>
         rw [hfm] at hFo
         have HFo := Lib.hid hFo
         have HN8 := Lib.hid hN8
         have HFm := Lib.hid hfm
         clear hFo hN8 hfm
         go_wp2_with fail
         refine HFo.out.mono ?_
         rintro e w8 ⟨vf, rfl, -, -, O8⟩
         have HO88 := Lib.hid O8
         clear O8
         go_wp2_with fail
         refine rup_fixed_any.mono ?_
         rintro e w9 ⟨rfl, O9⟩
         have hpf9 := (HN8.out.only0 (HO88.out.same O9)).proof (by have := HP.out.len; omega) (fun p hp2 => by have := HP.out.small p hp2; omega)
         have HPf9 := Lib.hid hpf9
         have HO9 := Lib.hid (HO88.out.same O9)
         clear hpf9 O9
         go_wp2_with fail
         refine HPf9.out.mono ?_
         rintro e w10 ⟨v10, rfl, hS10, O10⟩
         have hpv := rup_Proves_any (((HI4.out.only0 HO8.out).only0 HO9.out).only0 O10) hS10 ((HG8.out.only0 HO9.out).only0 O10) (by omega) (fun c hc => by have := HG3.out c hc; omega) (by have := HP.out.len; omega) (fun p hp2 => by have := HP.out.small p hp2; omega) (n : Int) n (by omega) true (proves_true HP.out HFm.out)
         obtain ⟨av2, cv2, rfl, -, -⟩ := hS10.shape
         have HPv := Lib.hid hpv
         have HO10 := Lib.hid O10
         clear hpv hS10 O10
         go_wp2_with fail
         refine HPv.out.mono ?_
         rintro e w11 ⟨rfl, O11⟩
         go_wp2_with fail
         go_ret
         exact ⟨rfl, (((HON4.out.same HO8.out).same HO9.out).same HO10.out).same O11⟩
     | spent met =>
      obtain rfl := HA3.out
      go_wp2_with ((refine wpList_store_row rfl 30 (.tmp 11) (.tmp 49) rfl B #[.int .u8 3, nilS, nilS, .int .i64 met] rfl rfl 30 #[.int .u8 0, nilS, nilS, .int .i64 0] HBA.out (by kernel_rfl) rfl (by first | kernel_rfl | rfl | simp [Value.oneCell']) ?_); rw [hw4])
      refine HPf.out.mono ?_
      rintro e w5 ⟨v, rfl, hS5, O5⟩
      obtain ⟨av, cv, rfl, -, -⟩ := hS5.shape
      have HK5 := Lib.hid (HChk.out w5 _ O5 hS5)
      have HO5 := Lib.hid O5
      clear hS5 O5
      go_wp2_with fail
      refine HK5.out.mono ?_
      rintro e w6 ⟨rfl, O6⟩
      have o46 : Only (fun _ => False) w4 w6 := HO5.out.same O6
      have hb6 := only_block HB4.out o46 (fun f => f)
      have q0 : w6.cell? ⟨B, 0, none⟩ = some (.int .u8 3) := by rw [cell_block hb6]; rfl
      have HO46 := Lib.hid o46
      clear hb6 O6 o46
      go_wp2_with fail
      refine rup_fixed_any.mono ?_
      rintro e w7 ⟨rfl, O7⟩
      go_wp2_with fail
      go_ret
      exact ⟨rfl, (HON4.out.same HO46.out).same O7⟩
end
end Go.Proofs.YtjedgdamommgeaaGreat

/- The walk of cooperlaw21.SolveMore. Printed by gen_sol26.py. -/
import Derived.Test.YtjedgdamommgeaaGreatSol25
set_option linter.unusedVariables false
namespace Go.Proofs.YtjedgdamommgeaaGreat
open Go.RowKit
open Tr
open Cnf (soB)
theorem field21 (u a b c : Value) (W : World) : (Instr.field 30 (.agg #[u, a, b, c]) 0).run Tryz.prog W = .ok u W := by
 unfold Instr.field
 rw [Sem.run_bind, run_underlying Tryz.underlying30]
 simp [asAgg, part, isAgg]
theorem intsS_range21 {w : World} {v : Value} {css : List (List Int)} (h : IntsS w v css) : ∀ c ∈ css, ∀ x ∈ c, InI64 x := fun c hc => by
 obtain ⟨us, _, hA⟩ := h
 obtain ⟨i, hi, rfl⟩ := List.getElem_of_mem hc
 have := (hA.2 i hi).range
 rwa [List.getD_eq_getElem?_getD, List.getElem?_eq_getElem hi] at this
theorem all4 {va vb : Value} (h1 : va.oneCell' = true) (h2 : vb.oneCell' = true) (s k : Int) : (#[Value.int .u8 s, va, vb, .int .i64 k] : Array Value).all (·.oneCell') = true :=
 all_oneCell_toArray (cs := [.int .u8 s, va, vb, .int .i64 k]) (by
  intro v hv
  simp at hv
  rcases hv with rfl | rfl | rfl | rfl
  ·rfl
  ·exact h1
  ·exact h2
  ·rfl)
theorem intsS_own21 {w : World} {v : Value} {us : List Value} {css : List (List Int)} {n : Nat} (h : w.ownsRow 0 23 1 v n us) (hA : AllInts w us css) : IntsS w v css := by
 have hn : us.length = n := by simpa using h.1
 subst hn
 exact ⟨us, Cells.of_own h, hA⟩
theorem free_cases {a : Sv.Ans} {t : Bool} (h : (a.st == 1) = !t) (hs : ∀ m, a ≠ .spent m) : (a.st = 1 ∧ t = false) ∨ (a.st = 2 ∧ t = true) := by
 cases a with
 | sat mm km => refine .inl ⟨rfl, ?_⟩; cases t <;> simp_all [Sv.Ans.st]
 | unsat cu km => refine .inr ⟨rfl, ?_⟩; cases t <;> simp_all [Sv.Ans.st]
 | spent km => exact absurd rfl (hs km)
section
variable {w : World}
set_option maxRecDepth 100000 in
set_option maxHeartbeats 12800000 in
theorem SolveMore_walk {z : Int} (hz : 0 ≤ z ∧ z ≤ 255) {vcs vd vm : Value} {css : List (List Int)} {qs more : List Int} (hI : IntsS w vcs css) (hD : Ints w vd qs) (hM : Ints w vm more) :
  Calls Tryz.prog 3 #[.int .u8 z, vcs, vd, vm] w fun e w' => e = .returned (.bool true) ∧ Only (fun _ => False) w w' := by
 obtain ⟨hz1, hz2⟩ := hz
 obtain ⟨us, hC, hA⟩ := hI
 have hI : IntsS w vcs css := ⟨us, hC, hA⟩
 obtain ⟨ac, cc, rfl, -, -⟩ := hI.shape
 obtain ⟨ad, cd, rfl, hcd, hcd2⟩ := hD.shape
 obtain ⟨am, cm, rfl, -, -⟩ := hM.shape
 obtain ⟨m, hm⟩ : ∃ m : Nat, z % 10 = (m : Int) := ⟨(z % 10).toNat, by omega⟩
 have tm : z.tmod 10 = (m : Int) := by rw [Int.tmod_eq_emod_of_nonneg hz1]; exact hm
 obtain ⟨n, hn⟩ : ∃ n, n = m + 1 := ⟨_, rfl⟩
 have hn10 : n ≤ 10 := by omega
 have ewz : IntKind.i64.wrap z = z := IntWalk.i64_in _ (by omega)
 have ewm : IntKind.i64.wrap (m : Int) = (m : Int) := IntWalk.i64_in _ (by omega)
 have ewn : IntKind.i64.wrap (1 + (m : Int)) = (n : Int) := by rw [IntWalk.i64_in _ (by omega)]; omega
 clear hm hn
 have hr := intsS_range21 hI
 cases hg : great21 css 60 with
 | true =>
  have HG := Lib.hid (great21_any hI 60 true hg)
  clear hI hD hM hr hC hA
  go_enter Tryz.func3, Tryz.ntmps3
  go_wp2_with fail
  refine HG.out.mono ?_
  rintro e w1 ⟨rfl, rfl⟩
  go_wp2_with fail
  refine law21_fixed_any.mono ?_
  rintro e w2 ⟨rfl, O2⟩
  go_wp2_with fail
  go_ret
  exact ⟨rfl, O2⟩
 | false =>
  obtain ⟨g1, g3⟩ := great21_le hg
  have HG := Lib.hid (great21_any hI 60 false hg)
  by_cases hq : 20 < qs.length
  ·have d3 : decide ((20 : Int) < (qs.length : Int)) = true := decide_eq_true (by omega)
   clear hI hD hM hr hC hA
   go_enter Tryz.func3, Tryz.ntmps3
   go_wp2_with fail
   refine HG.out.mono ?_
   rintro e w1 ⟨rfl, rfl⟩
   go_wp2_with fail
   refine law21_fixed_any.mono ?_
   rintro e w2 ⟨rfl, O2⟩
   go_wp2_with fail
   go_ret
   exact ⟨rfl, O2⟩
  have d3 : decide ((20 : Int) < (qs.length : Int)) = false := decide_eq_false (by omega)
  have hqb : qs.length ≤ 20 := by omega
  by_cases hmo : 12 < more.length
  ·have d4 : decide ((12 : Int) < (more.length : Int)) = true := decide_eq_true (by omega)
   clear hI hD hM hr hC hA
   go_enter Tryz.func3, Tryz.ntmps3
   go_wp2_with fail
   refine HG.out.mono ?_
   rintro e w1 ⟨rfl, rfl⟩
   go_wp2_with fail
   refine law21_fixed_any.mono ?_
   rintro e w2 ⟨rfl, O2⟩
   go_wp2_with fail
   go_ret
   exact ⟨rfl, O2⟩
  have d4 : decide ((12 : Int) < (more.length : Int)) = false := decide_eq_false (by omega)
  have hmb : more.length ≤ 12 := by omega
  have HI := Lib.hid hI
  have HD := Lib.hid hD
  have HMo := Lib.hid hM
  have HR := Lib.hid hr
  have HG3 := Lib.hid g3
  have HC := Lib.hid hC
  have HA := Lib.hid hA
  have hul := hA.1
  clear hI hD hM hr g3 hg hC hA hq hmo
  go_enter Tryz.func3, Tryz.ntmps3
  go_wp2_with fail
  refine HG.out.mono ?_
  rintro e w1 ⟨rfl, rfl⟩
  clear HG
  go_wp2_with fail
  clear tm ewz ewm ewn
  go_loopw [38] (fun v wr => w1 = wr ∧ ∃ j : Nat, v = .int .i64 j ∧ j ≤ qs.length ∧ Hid (∀ x ∈ qs.take j, x ≠ 0 ∧ x.natAbs ≤ n)) (fun v _ => qs.length - (intOf v).toNat)
  case atStart => exact ⟨rfl, 0, rfl, Nat.zero_le _, show Hid _ from fun x hx => by simp at hx⟩
  case round =>
   obtain ⟨rfl, j, rfl, hj, HQ⟩ := hrel
   by_cases cj : j < qs.length
   ·obtain ⟨bl, ol, rfl, _, hcs⟩ := HD.out.cells _ _ _ rfl (by omega)
    have qx := hcs j cj
    have hx := HD.out.range' j
    obtain ⟨x, hxe⟩ : ∃ x, qs.getD j 0 = x := ⟨_, rfl⟩
    have htk := take_snocI qs j cj
    rw [hxe] at qx hx htk
    have HTk := Lib.hid htk
    have ewj : IntKind.i64.wrap ((j : Int) + 1) = ((j + 1 : Nat) : Int) := by rw [IntWalk.i64_in _ (by omega)]; rfl
    clear hcs hxe htk
    by_cases hw : Cnf.wr x = true
    ·have HN := Lib.hid (None_any (w := w1) x hx true hw)
     go_wp2_with fail
     refine HN.out.mono ?_
     rintro e w2 ⟨rfl, rfl⟩
     go_wp2_with fail
     refine law21_fixed_any.mono ?_
     rintro e w2 ⟨rfl, O2⟩
     go_wp2_with fail
     go_ret
     exact ⟨rfl, O2⟩
    ·have hw : Cnf.wr x = false := by simpa using hw
     have HN := Lib.hid (None_any (w := w1) x hx false hw)
     have HAt := Lib.hid (Atom_any (w := w1) x hx hw)
     have h0 : x ≠ 0 := by
      intro e; subst e; revert hw; decide
     clear hw hx
     by_cases hgt : n < x.natAbs
     ·have dg : decide ((n : Int) < (x.natAbs : Int)) = true := decide_eq_true (by omega)
      have dg2 : decide (n < x.natAbs) = true := decide_eq_true hgt
      go_wp2_with fail
      refine HN.out.mono ?_
      rintro e w2 ⟨rfl, rfl⟩
      go_wp2_with fail
      refine HAt.out.mono ?_
      rintro e w2 ⟨rfl, rfl⟩
      go_wp2_with fail
      refine law21_fixed_any.mono ?_
      rintro e w2 ⟨rfl, O2⟩
      go_wp2_with fail
      go_ret
      exact ⟨rfl, O2⟩
     ·have dg : decide ((n : Int) < (x.natAbs : Int)) = false := decide_eq_false (by omega)
      have dg2 : decide (n < x.natAbs) = false := decide_eq_false hgt
      have hnew : ∀ y ∈ qs.take (j + 1), y ≠ 0 ∧ y.natAbs ≤ n := fun y hy => by
       rw [HTk.out] at hy
       rcases List.mem_append.1 hy with h | h
       ·exact HQ.out y h
       ·rw [List.mem_singleton] at h; subst h; exact ⟨h0, by omega⟩
      have HNew := Lib.hid hnew
      clear hnew
      go_wp2_with fail
      refine HN.out.mono ?_
      rintro e w2 ⟨rfl, rfl⟩
      go_wp2_with fail
      refine HAt.out.mono ?_
      rintro e w2 ⟨rfl, rfl⟩
      go_wp2_with fail
      go_roundw
      case rel => exact ⟨by first | rfl | trivial, j + 1, by first | rfl | go_num, by omega, HNew⟩
      case measure => simp [intOf] <;> omega
   ·have hjl : j = qs.length := by omega
    subst hjl
    have has := HQ.out
    rw [List.take_of_length_le (Nat.le_refl _)] at has
    have HAs := Lib.hid has
    clear has HQ
    have HNw := Lib.hid (solve_New_any w1 (n : Int) (by unfold InI64; omega) n (by omega) HI.out (by omega) (fun c hc => by have := HG3.out c hc; omega))
    go_wp2_with fail
    refine HNw.out.mono ?_
    rintro e w2 ⟨bx, rfl, h2⟩
    have HX := Lib.hid (ask21 h2 hn10 (by omega) HR.out HD.out (by omega) HAs.out)
    clear h2 HNw
    go_wp2_with fail
    refine HX.out.mono ?_
    rintro e w3 ⟨a, cs, hra, hsa, rfl, hAx, O3⟩
    obtain ⟨sx, hsx⟩ : ∃ sx, a.st = sx := ⟨_, rfl⟩
    have hcx : ∃ va vb kx, cs = #[.int .u8 sx, va, vb, .int .i64 kx] ∧ va.oneCell' = true ∧ vb.oneCell' = true ∧ (sx = 1 ∨ (sx = 2 ∧ ∃ core kc, a = .unsat core kc ∧ Ints w3 vb core ∧ core.length ≤ 20 ∧ (∀ x ∈ core, x ≠ 0 ∧ x.natAbs ≤ n))) := by
     obtain ⟨va, vb, kx, h1, h2, h3⟩ := ans_cells hAx
     rw [hsx] at h1
     refine ⟨va, vb, kx, h1, h2, h3, ?_⟩
     cases a with
     | sat mm km => exact .inl hsx.symm
     | spent km => exact absurd rfl (hsa km)
     | unsat core km =>
      refine .inr ⟨hsx.symm, core, km, rfl, ?_⟩
      obtain ⟨r1, r2, r3⟩ := hra
      obtain ⟨vc, h4, h5, h6⟩ := hAx
      rw [h1] at h4
      simp only [Array.mk.injEq, List.cons.injEq] at h4
      obtain ⟨-, -, rfl, -⟩ := h4
      have hl := nodup_sub_len r1 r2
      exact ⟨Ints.of_own h5 (fun x hx => by have := HAs.out x (r2 x hx); unfold InI64; omega), by omega, fun x hx => HAs.out x (r2 x hx)⟩
    obtain ⟨va, vb, kx, rfl, ova, ovb, hxx⟩ := hcx
    obtain ⟨Bx, hBx⟩ : ∃ Bx, w3.heap.size = Bx := ⟨_, rfl⟩
    obtain ⟨wA, hwA⟩ : ∃ wA, w3.alloc (.cells #[.int .u8 0, nilS, nilS, .int .i64 0] 30) = wA := ⟨_, rfl⟩
    have hbA : wA.heap[Bx]? = some (.cells #[.int .u8 0, nilS, nilS, .int .i64 0] 30 (0, 0)) := by rw [← hwA, ← hBx]; exact heap_alloc_new _ _
    obtain ⟨w4, hw4⟩ : ∃ w4, wA.setRow Bx #[.int .u8 sx, va, vb, .int .i64 kx] = w4 := ⟨_, rfl⟩
    have hb4 : w4.heap[Bx]? = some (.cells #[.int .u8 sx, va, vb, .int .i64 kx] 30 (0, 0)) := by rw [← hw4]; exact setRow_heap _ _ _ _ _ _ hbA
    have o34 : Only (fun _ => False) w3 w4 := by rw [← hw4, ← hwA]; exact ((Only.refl _ _).alloc _).trans (only_setRow _ _ _) (fun k hk => .inr (by omega))
    have hO4 := O3.same o34
    have HBA := Lib.hid hbA
    have HB4 := Lib.hid hb4
    have HO4 := Lib.hid hO4
    have HO34 := Lib.hid o34
    have HRa := Lib.hid hra
    have HSx := Lib.hid hsx
    have HXx := Lib.hid hxx
    have HOva := Lib.hid (And.intro ova ovb)
    clear hbA hb4 o34 hO4 hra hsa hAx hsx hxx O3 HX ova ovb
    have hC4 := HC.out.only0 HO4.out
    have hA4 := HA.out.only0 HO4.out
    go_wp2_with (first | (refine wpList_store_row rfl 30 (.tmp 12) (.tmp 56) rfl Bx #[.int .u8 sx, va, vb, .int .i64 kx] rfl rfl 30 #[.int .u8 0, nilS, nilS, .int .i64 0] HBA.out (by kernel_rfl) rfl (all4 HOva.out.1 HOva.out.2 _ _) ?_; rw [hw4]) | (at_builtin; go_must (refine wpAS slInts rfl (.tmp 58) (.tmp 59) rfl (v := .slice (some ⟨w4.heap.size, 0, none⟩) 0 0) (n := 0) (xs := []) rfl (OwnS.lit0 w4 w4 (Nat.le_refl _)).row rfl (news := us) (by omega) ?n1 (by exact (hC4.only0 ((Only.refl _ w4).alloc _)).news) hA4.one (by omega) (by decide) ?n2)))
    case n1 => intro e; exact HC.out.nil _ _ (by rw [e])
    case n2 =>
     intro v5 w5 r1 r2 r3
     have hv2 : ∀ k, v5.ownBlock = some k → w4.heap.size ≤ k := by
      intro k hk
      rcases r3 k hk with h | h
      ·simp [Value.ownBlock] at h; omega
      ·simp at h; omega
     have O5 : Only (fun _ => False) w4 w5 := ((Only.refl _ w4).alloc _).trans r2 (by intro i hi; simp [Value.ownBlock] at hi; exact .inr (by omega))
     have r1' : w5.ownsRow 0 23 1 v5 us.length us := by simpa [hul] using r1
     have HV2 := Lib.hid hv2
     have HR5 := Lib.hid r1'
     have HO5 := Lib.hid O5
     clear r1 r2 r3 hv2 r1' O5 hC4 hA4 hw4 hwA hBx
     go_wp2_with (at_builtin; go_must (refine wpA1 (u := .slice am more.length cm) slInts rfl (.tmp 60) (.tmp 62) rfl rfl rfl (cell_newE _ _ _ _ rfl) rfl (own_only HR5.out ((Only.refl (fun _ => False) _).alloc _) (fun _ _ f => f)) (by omega) (by decide) ?n3))
     intro v6 w6 s1 s2 s3
     have O6 : Only (fun _ => False) w4 w6 := (HO5.out.alloc _).trans s2 (fun k hk => .inr (HV2.out k hk))
     have O6' : Only (fun _ => False) w1 w6 := HO4.out.same O6
     have hall : IntsS w6 v6 (css ++ [more]) := intsS_own21 s1 ((HA.out.only0 O6').snoc (HMo.out.only0 O6'))
     obtain ⟨a6, c6, rfl, -, -⟩ := own_slice s1
     have hrm : ∀ c ∈ css ++ [more], ∀ x ∈ c, InI64 x := fun c hc => by
      rcases List.mem_append.1 hc with h | h
      ·exact HR.out c h
      ·rw [List.mem_singleton.1 h]; exact HMo.out.range
     have hlm : ∀ c ∈ css ++ [more], c.length ≤ 17592186043904 := fun c hc => by
      rcases List.mem_append.1 hc with h | h
      ·have := HG3.out c h; omega
      ·rw [List.mem_singleton.1 h]; omega
     have hlen : (css ++ [more]).length ≤ 1000000 := by rw [List.length_append, List.length_singleton]; omega
     have HNw := Lib.hid (solve_New_any w6 (n : Int) (by unfold InI64; omega) n (by omega) hall hlen hlm)
     have HRm := Lib.hid hrm
     have HLen := Lib.hid hlen
     have HO6 := Lib.hid O6
     have HO6' := Lib.hid O6'
     clear hall hrm hlm hlen s1 s2 s3 O6 O6'
     go_wp2_with fail
     refine HNw.out.mono ?_
     rintro e w7 ⟨by_, rfl, h7⟩
     have HY := Lib.hid (ask21 h7 hn10 HLen.out HRm.out (HD.out.only0 HO6'.out) (by omega) HAs.out)
     clear h7 HNw
     go_wp2_with fail
     refine HY.out.mono ?_
     rintro e w8 ⟨y, cs, hry, hsy, rfl, hAy, O8⟩
     obtain ⟨sy, hsy2⟩ : ∃ sy, y.st = sy := ⟨_, rfl⟩
     obtain ⟨vc, vd2, ky, h1y, ovc, ovd⟩ := ans_cells hAy
     subst h1y
     rw [hsy2]
     have hxy : (sx = 1 ∧ sy = 1) ∨ (sx = 1 ∧ sy = 2) ∨ (sx = 2 ∧ sy = 2) := by
      have hys : sy = 1 ∨ sy = 2 := by
       cases y with
       | sat mm km => exact .inl hsy2.symm
       | unsat cu km => exact .inr hsy2.symm
       | spent km => exact absurd rfl (hsy km)
      rcases HXx.out with e | ⟨e, -⟩
      ·rcases hys with e2 | e2
       ·exact .inl ⟨e, e2⟩
       ·exact .inr (.inl ⟨e, e2⟩)
      ·refine .inr (.inr ⟨e, ?_⟩)
       rw [Sv.keptAll_snoc] at hry
       rw [← hsy2]
       exact Sv.more_unsat HRa.out hry hsy (by rw [HSx.out]; exact e)
     obtain ⟨By, hBy⟩ : ∃ By, w8.heap.size = By := ⟨_, rfl⟩
     obtain ⟨wB, hwB⟩ : ∃ wB, w8.alloc (.cells #[.int .u8 0, nilS, nilS, .int .i64 0] 30) = wB := ⟨_, rfl⟩
     have hbB : wB.heap[By]? = some (.cells #[.int .u8 0, nilS, nilS, .int .i64 0] 30 (0, 0)) := by rw [← hwB, ← hBy]; exact heap_alloc_new _ _
     obtain ⟨w9, hw9⟩ : ∃ w9, wB.setRow By #[.int .u8 sy, vc, vd2, .int .i64 ky] = w9 := ⟨_, rfl⟩
     have hb9 : w9.heap[By]? = some (.cells #[.int .u8 sy, vc, vd2, .int .i64 ky] 30 (0, 0)) := by rw [← hw9]; exact setRow_heap _ _ _ _ _ _ hbB
     have o89 : Only (fun _ => False) w8 w9 := by rw [← hw9, ← hwB]; exact ((Only.refl _ _).alloc _).trans (only_setRow _ _ _) (fun k hk => .inr (by omega))
     have o49 : Only (fun _ => False) w4 w9 := (HO6.out.same O8).same o89
     have o39 : Only (fun _ => False) w3 w9 := HO34.out.same o49
     have o19 : Only (fun _ => False) w1 w9 := HO4.out.same o49
     have q0 : w9.cell? ⟨Bx, 0, none⟩ = some (.int .u8 sx) := by rw [cell_block (only_block HB4.out o49 (fun f => f))]; rfl
     have q2 : w9.cell? ⟨Bx, 2, none⟩ = some vb := by rw [cell_block (only_block HB4.out o49 (fun f => f))]; rfl
     have p0 : w9.cell? ⟨By, 0, none⟩ = some (.int .u8 sy) := by rw [cell_block hb9]; rfl
     have HBB := Lib.hid hbB
     have HXy := Lib.hid hxy
     have HO39 := Lib.hid o39
     have HO19 := Lib.hid o19
     have HQ0 := Lib.hid q0
     have HQ2 := Lib.hid q2
     have HOvc := Lib.hid (And.intro ovc ovd)
     clear hbB hb9 o89 o49 o39 o19 hry hsy hAy hsy2 hxy O8 HY ovc ovd q2
     go_upto_region 12 with (refine wpList_store_row rfl 30 (.tmp 13) (.tmp 66) rfl By #[.int .u8 sy, vc, vd2, .int .i64 ky] rfl rfl 30 #[.int .u8 0, nilS, nilS, .int .i64 0] HBB.out (by kernel_rfl) rfl (all4 HOvc.out.1 HOvc.out.2 _ _) ?_; rw [hw9])
     try simp only [Act.put]
     clear hw9 hwB hBy
     go_cut [84] (fun v wx => v = .bool false ∧ w9 = wx)
     case first =>
      rcases HXy.out with ⟨rfl, rfl⟩ | ⟨rfl, rfl⟩ | ⟨rfl, rfl⟩
      all_goals
       go_wp2_with fail
       go_meet
       exact ⟨rfl, rfl⟩
     case rest =>
     obtain ⟨rfl, rfl⟩ := hcut
     clear q0 p0
     go_wp2_with fail
     go_loopw [14, 87] (fun v14 vi wr => w9 = wr ∧ ∃ i : Nat, vi = .int .i64 i ∧ i ≤ qs.length ∧ v14 = .bool (Sv.twoTo qs i)) (fun _ v _ => qs.length - (intOf v).toNat)
     case atStart => exact ⟨rfl, 0, rfl, Nat.zero_le _, rfl⟩
     case round =>
      obtain ⟨rfl, i, rfl, hi, rfl⟩ := hrel
      by_cases ci : i < qs.length
      ·obtain ⟨bl, ol, rfl, _, hcs⟩ := (HD.out.only0 HO19.out).cells _ _ _ rfl (by omega)
       have qx := hcs i ci
       have HCs := Lib.hid hcs
       obtain ⟨l, hl⟩ : ∃ l, qs.getD i 0 = l := ⟨_, rfl⟩
       have hlg := HAs.out _ (getD_mem' 0 ci)
       have hts := Sv.twoTo_succ qs i
       rw [hl] at qx hlg hts
       have ewl : IntKind.i64.wrap (-l) = -l := by rw [IntKind.wrap_i64]; omega
       have ewi : IntKind.i64.wrap ((i : Int) + 1) = (i : Int) + 1 := by rw [IntKind.wrap_i64]; omega
       have HTs := Lib.hid hts
       have hic : i ≤ cd := by omega
       have hic2 : (i : Int) ≤ (cd : Int) := by omega
       clear hcs hl hlg hts
       generalize Sv.twoTo qs i = T0 at *
       go_wp2_with fail
       go_loopw [14, 96] (fun v14 vj wr => w9 = wr ∧ ∃ j : Nat, vj = .int .i64 j ∧ j ≤ i ∧ v14 = .bool (T0 || (qs.take j).any fun m => m == -l)) (fun _ v _ => i - (intOf v).toNat)
       case atStart => exact ⟨rfl, 0, rfl, Nat.zero_le _, by simp⟩
       case round =>
        obtain ⟨rfl, j, rfl, hj, rfl⟩ := hrel
        by_cases cj : j < i
        ·have qy := HCs.out j (by omega)
         have htk := take_snocI qs j (by omega)
         obtain ⟨y, hy⟩ : ∃ y, qs.getD j 0 = y := ⟨_, rfl⟩
         rw [hy] at qy htk
         have hany : (T0 || (qs.take (j + 1)).any fun m => m == -l) = ((T0 || (qs.take j).any fun m => m == -l) || (y == -l)) := by rw [htk, List.any_append]; simp [Bool.or_assoc]
         have HAny := Lib.hid hany
         have ewj : IntKind.i64.wrap ((j : Int) + 1) = (j : Int) + 1 := by rw [IntKind.wrap_i64]; omega
         clear hy htk hany
         generalize (T0 || (qs.take j).any fun m => m == -l) = B0 at *
         cases B0 with
         | true =>
          go_wp2_with fail
          go_roundw
          case rel => exact ⟨by first | rfl | trivial, j + 1, by first | rfl | go_num, by omega, by rw [HAny.out]; rfl⟩
          case measure => simp [intOf] <;> omega
         | false =>
          by_cases cy : y = -l
          ·have dy : (y == -l) = true := beq_iff_eq.2 cy
           have dy2 : decide (y = -l) = true := decide_eq_true cy
           rw [dy] at HAny
           clear cy
           go_wp2_with fail
           go_roundw
           case rel => exact ⟨by first | rfl | trivial, j + 1, by first | rfl | go_num, by omega, by rw [HAny.out]; rfl⟩
           case measure => simp [intOf] <;> omega
          ·have dy : (y == -l) = false := beq_eq_false_iff_ne.2 cy
           have dy2 : decide (y = -l) = false := decide_eq_false cy
           rw [dy] at HAny
           go_wp2_with fail
           go_roundw
           case rel => exact ⟨by first | rfl | trivial, j + 1, by first | rfl | go_num, by omega, by rw [HAny.out]; rfl⟩
           case measure => simp [intOf] <;> omega
        ·obtain rfl : i = j := by omega
         have hz2 := HTs.out
         generalize (T0 || (qs.take i).any fun m => m == -l) = B0 at *
         have HZ2 := Lib.hid hz2
         clear hz2
         go_wp2_with fail
         go_roundw
         case rel => exact ⟨by first | rfl | trivial, i + 1, by first | rfl | go_num, by omega, by rw [HZ2.out]⟩
         case measure => simp [intOf] <;> omega
      ·have hil : i = qs.length := by omega
       subst hil
       rw [Sv.twoTo_two (fun a ha => (HAs.out a ha).1)]
       obtain ⟨t, ht⟩ : ∃ t, Sv.two qs = t := ⟨_, rfl⟩
       rw [ht]
       have HT := Lib.hid ht
       clear ht ci hi
       go_upto_region 24 with fail
       go_cut [116] (fun v wx => v = .bool false ∧ Hid (Only (fun _ => False) w9 wx))
       case first =>
        have HNw := Lib.hid (solve_New_any w9 (n : Int) (by unfold InI64; omega) n (by omega) (vcs := .slice none 0 0) (css := []) ⟨[], Cells.of_own (World.ownsRow_nil w9 0 23 1), rfl, fun i hi => by simp at hi⟩ (by simp) (by simp))
        go_wp2_with fail
        refine HNw.out.mono ?_
        rintro e w10 ⟨b3, rfl, h10⟩
        have HF := Lib.hid (ask21_free h10 hn10 (HD.out.only0 HO19.out) (by omega) HAs.out)
        have HO10 := Lib.hid h10.on
        clear h10 HNw
        go_wp2_with fail
        refine HF.out.mono ?_
        rintro e w11 ⟨a3, cs3, hr3, hs3, rfl, hA3, O11⟩
        obtain ⟨va3, vb3, k3, rfl, -, -⟩ := ans_cells hA3
        have hst : (a3.st = 1 ∧ t = false) ∨ (a3.st = 2 ∧ t = true) := by
         have h := Sv.free_st (n := n) (by omega) HAs.out hr3 hs3
         rw [HT.out] at h
         exact free_cases h hs3
        have fst := field21
        have HO11 := Lib.hid O11
        clear hr3 hs3 hA3 O11 HF
        generalize a3.st = s3 at *
        rcases hst with ⟨rfl, rfl⟩ | ⟨rfl, rfl⟩
        all_goals
         go_wp2_with fail
         go_meet
         exact ⟨rfl, HO11⟩
       case rest =>
       obtain ⟨rfl, HOc⟩ := hcut
       have q0 := cell_keep HQ0.out HOc.out (fun f => f)
       have q2 := cell_keep HQ2.out HOc.out (fun f => f)
       have HXx2 := HXx.out
       rcases HXx2 with rfl | ⟨rfl, core, kc, hacore, hcI, hcl, hcg⟩
       ·have Q0 := Lib.hid q0
        clear q0 q2
        go_upto_region 26 with fail
        refine wp_region_Q (fun w' => Only (fun _ => False) wc w') (by kernel_rfl) (by kernel_rfl) (by exact (Only.refl _ _).drew) ?_
        refine wpQ_call (v := .bool true) (f := 10) (args := #[]) (by rfl) ?_ ?_ ?_
        ·(intro w; go_simp <;> (try with_reducible rfl))
        ·(intro w hSw; exact (law21_fixed_any (w := w)).mono fun _ _ ⟨he, hw⟩ => ⟨he, hSw.same hw⟩)
        try simp only [Act.put, zq4, zq5, zq6]
        refine wpQ_val (v := .bool true) (by kernel_rfl) ?_ ?_
        ·(intro w hSw; go_simp)
        try simp only [Act.put, zq4, zq5, zq6]
        refine wpQ_val (v := ?_) (by rfl) ?_ ?_
        rotate_left
        ·(intro w hSw; (try dsimp only at hSw); have q0 := cell_keep Q0.out hSw (fun f => f); go_simp <;> (try with_reducible rfl))
        try simp only [Act.put, zq4, zq5, zq6]
        refine wpQ_val (v := ?_) (by rfl) ?_ ?_
        rotate_left
        ·(intro w hSw; (try dsimp only at hSw); have q0 := cell_keep Q0.out hSw (fun f => f); go_simp <;> (try with_reducible rfl))
        try simp only [Act.put, zq4, zq5, zq6]
        obtain ⟨zt, hzt⟩ : ∃ zt, zt = true := ⟨_, rfl⟩
        refine wpQ_val (v := .bool zt) (by kernel_rfl) ?_ ?_
        ·(intro w hSw; rw [hzt]; go_simp)
        try simp only [Act.put, zq4, zq5, zq6]
        refine wpQ_val (v := .bool zt) (by kernel_rfl) ?_ ?_
        ·(intro w hSw; go_simp)
        try simp only [Act.put, zq4, zq5, zq6]
        refine wpQ_skip (by subst hzt; go_simp) ?_
        try simp only [Act.put, zq4, zq5, zq6]
        refine wpQ_skip (by subst hzt; go_simp) ?_
        try simp only [Act.put, zq4, zq5, zq6]
        refine wpQ_skip (by subst hzt; go_simp) ?_
        try simp only [Act.put, zq4, zq5, zq6]
        refine wpQ_skip (by subst hzt; go_simp) ?_
        try simp only [Act.put, zq4, zq5, zq6]
        refine wpQ_skip (by subst hzt; go_simp) ?_
        try simp only [Act.put, zq4, zq5, zq6]
        refine wpQ_skip (by subst hzt; go_simp) ?_
        try simp only [Act.put, zq4, zq5, zq6]
        refine wpQ_skip (by subst hzt; go_simp) ?_
        try simp only [Act.put, zq4, zq5, zq6]
        refine wpQ_skip (by subst hzt; go_simp) ?_
        try simp only [Act.put, zq4, zq5, zq6]
        refine wpQ_val (v := .bool zt) (by kernel_rfl) ?_ ?_
        ·(intro w hSw; subst hzt; go_simp)
        try simp only [Act.put, zq4, zq5, zq6]
        refine wpQ_val (v := .bool zt) (by kernel_rfl) ?_ ?_
        ·(intro w hSw; subst hzt; go_simp)
        try simp only [Act.put, zq4, zq5, zq6]
        refine wpQ_val (v := .bool zt) (by kernel_rfl) ?_ ?_
        ·(intro w hSw; subst hzt; go_simp)
        try simp only [Act.put, zq4, zq5, zq6]
        refine wpQuiet_nil ?_
        intro w12 O12; subst hzt
        go_wp2_with fail
        go_ret
        exact ⟨rfl, (HO19.out.same HOc.out).same O12⟩
       ·have hC9 := hcI.only0 (HO39.out.same HOc.out)
        have HC9 := Lib.hid hC9
        have HCg := Lib.hid hcg
        have HCore := Lib.hid hacore
        obtain ⟨ak, ck, rfl, -, -⟩ := hC9.shape
        have fst := field21
        have HS := Lib.hid (show ∀ W, Only (fun _ => False) wc W → W.cell? ⟨Bx, 0, none⟩ = some (.int .u8 2) ∧ W.cell? ⟨Bx, 2, none⟩ = some (.slice ak core.length ck) from fun W oW => ⟨cell_keep q0 oW (fun f => f), cell_keep q2 oW (fun f => f)⟩)
        have hS0 := HS.out wc.drew ((Only.refl _ _).drew)
        clear q0 q2 hC9 hcI hcg hacore
        go_upto_region 26 with fail
        refine wp_region_G (n := 17) (E := fun _ => false) (S := fun W => W.cell? ⟨Bx, 0, none⟩ = some (.int .u8 2) ∧ W.cell? ⟨Bx, 2, none⟩ = some (.slice ak core.length ck)) (by kernel_rfl) rfl hS0 (fun hHeld => ?_)
        refine wpAnyG_ready (rs := [0]) (by kernel_rfl) (by simp) ?_
        refine AllReadyG.cons (i := 0) rfl (fun K hK => ?_) ?_
        ·(obtain ⟨s1, s2⟩ := hHeld; go_simp; refine (law21_fixed_any).mono ?_; rintro e w12 ⟨rfl, O12⟩; have HO12 := Lib.hid (show Only (fun _ => False) wc w12 from ((Only.refl _ _).drew).same O12); try go_wp2_with fail)
         refine hK.out _ _ ?_ (fun hHeld => ?_)
         ·(try dsimp only) <;> (exact HS.out _ (by repeat (first | exact HO12.out | exact HO13.out | exact HO14.out | exact Only.refl _ _ | apply Only.drew | apply Only.alloc | apply Only.drewN)))
         clear hK K
         try simp only [Act.put, zq1, zq2, zq3, zq4, zq5, zq6]
         refine tqW (i := 1) (v := ?_) rfl (.inr (by assumption)) ?_ ?_
         rotate_left
         ·(intro w; go_simp <;> (try with_reducible rfl))
         try simp only [Act.put, zq1, zq2, zq3, zq4, zq5, zq6]
         refine tqW (i := 2) (v := ?_) rfl (.inr (by assumption)) ?_ ?_
         rotate_left
         ·(intro w; go_simp <;> (try with_reducible rfl))
         try simp only [Act.put, zq1, zq2, zq3, zq4, zq5, zq6]
         refine tqK (i := 3) (v := ?_) rfl ?_ ?_
         rotate_left
         ·(intro w hSw; (try dsimp only at hSw); go_simp <;> (try with_reducible rfl))
         try simp only [Act.put, zq1, zq2, zq3, zq4, zq5, zq6]
         refine tqW (i := 4) (v := ?_) rfl (.inr (by assumption)) ?_ ?_
         rotate_left
         ·(intro w; go_simp <;> (try with_reducible rfl))
         try simp only [Act.put, zq1, zq2, zq3, zq4, zq5, zq6]
         refine tqW (i := 5) (v := ?_) rfl (.inr (by assumption)) ?_ ?_
         rotate_left
         ·(intro w; go_simp <;> (try with_reducible rfl))
         try simp only [Act.put, zq1, zq2, zq3, zq4, zq5, zq6]
         refine tqW (i := 6) (v := ?_) rfl (.inr (by assumption)) ?_ ?_
         rotate_left
         ·(intro w; go_simp <;> (try with_reducible rfl))
         try simp only [Act.put, zq1, zq2, zq3, zq4, zq5, zq6]
         refine tqW (i := 7) (v := ?_) rfl (.inr (by assumption)) ?_ ?_
         rotate_left
         ·(intro w; go_simp <;> (try with_reducible rfl))
         try simp only [Act.put, zq1, zq2, zq3, zq4, zq5, zq6]
         refine tqW (i := 9) (v := ?_) rfl (.inr (by assumption)) ?_ ?_
         rotate_left
         ·(intro w; go_simp <;> (try with_reducible rfl))
         try simp only [Act.put, zq1, zq2, zq3, zq4, zq5, zq6]
         refine tqK (i := 10) (v := ?_) rfl ?_ ?_
         rotate_left
         ·(intro w hSw; (try dsimp only at hSw); go_simp <;> (try with_reducible rfl))
         try simp only [Act.put, zq1, zq2, zq3, zq4, zq5, zq6]
         refine wpAnyG_ready (rs := [8]) (by kernel_rfl) (by simp) ?_
         refine AllReadyG.cons (i := 8) rfl (fun K hK => ?_) ?_
         ·(obtain ⟨s3, s4⟩ := hHeld; go_simp; refine (solve_New_any w12 (n : Int) (by unfold InI64; omega) n (by omega) (HI.out.only0 ((HO19.out.same HOc.out).same HO12.out)) (by omega) (fun c hc => by have := HG3.out c hc; omega)).mono ?_; rintro e w13 ⟨b4, rfl, h13⟩; have HNS := Lib.hid h13; have HO13 := Lib.hid (HO12.out.same h13.on); try go_wp2_with fail)
          refine hK.out _ _ ?_ (fun hHeld => ?_)
          ·(try dsimp only) <;> (exact HS.out _ (by repeat (first | exact HO12.out | exact HO13.out | exact HO14.out | exact Only.refl _ _ | apply Only.drew | apply Only.alloc | apply Only.drewN)))
          clear hK K
          try simp only [Act.put, zq1, zq2, zq3, zq4, zq5, zq6]
          refine wpAnyG_ready (rs := [11]) (by kernel_rfl) (by simp) ?_
          refine AllReadyG.cons (i := 11) rfl (fun K hK => ?_) ?_
          ·(obtain ⟨s5, s6⟩ := hHeld; go_simp; refine (ask21 HNS.out hn10 (by omega) HR.out (HC9.out.only0 HO12.out) (by omega) HCg.out).mono ?_; rintro e w14 ⟨a4, cs4, hr4, hs4, rfl, hA4, O14⟩; obtain ⟨va4, vb4, k4, rfl, -, -⟩ := ans_cells hA4; have hu4 := Sv.core_unsat (by rw [← HCore.out]; exact HRa.out) hr4 hs4; rw [hu4]; have HO14 := Lib.hid (HO12.out.same O14); clear hu4 hr4 hs4 hA4; try go_wp2_with fail)
           refine hK.out _ _ ?_ (fun hHeld => ?_)
           ·(try dsimp only) <;> (exact HS.out _ (by repeat (first | exact HO12.out | exact HO13.out | exact HO14.out | exact Only.refl _ _ | apply Only.drew | apply Only.alloc | apply Only.drewN)))
           clear hK K
           try simp only [Act.put, zq1, zq2, zq3, zq4, zq5, zq6]
           refine tqW (i := 12) (v := ?_) rfl (.inr (by assumption)) ?_ ?_
           rotate_left
           ·(intro w; go_simp <;> (try with_reducible rfl))
           try simp only [Act.put, zq1, zq2, zq3, zq4, zq5, zq6]
           refine tqW (i := 13) (v := ?_) rfl (.inr (by assumption)) ?_ ?_
           rotate_left
           ·(intro w; go_simp <;> (try with_reducible rfl))
           try simp only [Act.put, zq1, zq2, zq3, zq4, zq5, zq6]
           refine tqW (i := 14) (v := ?_) rfl (.inr (by assumption)) ?_ ?_
           rotate_left
           ·(intro w; go_simp <;> (try with_reducible rfl))
           try simp only [Act.put, zq1, zq2, zq3, zq4, zq5, zq6]
           refine tqW (i := 15) (v := ?_) rfl (.inr (by assumption)) ?_ ?_
           rotate_left
           ·(intro w; go_simp <;> (try with_reducible rfl))
           try simp only [Act.put, zq1, zq2, zq3, zq4, zq5, zq6]
           refine tqW (i := 16) (v := ?_) rfl (.inr (by assumption)) ?_ ?_
           rotate_left
           ·(intro w; go_simp <;> (try with_reducible rfl))
           try simp only [Act.put, zq1, zq2, zq3, zq4, zq5, zq6]
           refine wpAnyG_done (by kernel_rfl) ?_ _
           go_wp2_with fail
           go_ret
           exact ⟨rfl, (HO19.out.same HOc.out).same HO14.out⟩
          exact AllReadyG.nil
         exact AllReadyG.nil
        exact AllReadyG.nil
end
end Go.Proofs.YtjedgdamommgeaaGreat

/- The document's ranks, what is preferred, what a name may be. Printed by gen_nkr1.py. -/
import Derived.Test.YtmlfchjompfmaaaGreatDoorNkP1
import Derived.Test.YtmlfchjompfmaaaGreatDoorRfS
import Derived.Test.YtmlfchjompfmaaaGreatDoorRowB
import Derived.BigQuiet
set_option linter.unusedVariables false
namespace Go.Proofs.YtmlfchjompfmaaaGreatDoor
open Go.RowKit
section
variable {w w' : World} {B : Nat}
set_option maxRecDepth 100000 in
set_option maxHeartbeats 8000000 in
theorem Rank10_x {csp : List Value} {p : PackD} (hp : PackC B w csp p) (v : Str) (hv : okS v) :
  Calls Tryz.prog 8 #[.agg csp.toArray, .string v] w fun e w' => e = .returned (.int .i64 (rank10 p v)) ∧ Only (fun _ => False) w w' := by
 have HH_p := Lib.hid hp
 obtain ⟨u1, u2, u3, u4, u5, u6, rfl, -, -, r1, r2, r3, r4, r5, r6⟩ := hp
 obtain ⟨a_p_rels, c_p_rels, rfl, g_p_rels, h_p_rels⟩ := r1.shape
 obtain ⟨n_p_rels, e1⟩ : ∃ n, p.rels.length = n := ⟨_, rfl⟩
 have N_p_rels := Lib.hid e1
 obtain ⟨a_p_vars, c_p_vars, rfl, g_p_vars, h_p_vars⟩ := r2.shape
 obtain ⟨n_p_vars, e2⟩ : ∃ n, p.vars.length = n := ⟨_, rfl⟩
 have N_p_vars := Lib.hid e2
 obtain ⟨a_p_provides, c_p_provides, rfl, g_p_provides, h_p_provides⟩ := r3.shape
 obtain ⟨n_p_provides, e3⟩ : ∃ n, p.provides.length = n := ⟨_, rfl⟩
 have N_p_provides := Lib.hid e3
 obtain ⟨a_p_deps, c_p_deps, rfl, g_p_deps, h_p_deps⟩ := r4.shape
 obtain ⟨n_p_deps, e4⟩ : ∃ n, p.deps.length = n := ⟨_, rfl⟩
 have N_p_deps := Lib.hid e4
 obtain ⟨a_p_cons, c_p_cons, rfl, g_p_cons, h_p_cons⟩ := r5.shape
 obtain ⟨n_p_cons, e5⟩ : ∃ n, p.cons.length = n := ⟨_, rfl⟩
 have N_p_cons := Lib.hid e5
 obtain ⟨a_p_files, c_p_files, rfl, g_p_files, h_p_files⟩ := r6.shape
 obtain ⟨n_p_files, e6⟩ : ∃ n, p.files.length = n := ⟨_, rfl⟩
 have N_p_files := Lib.hid e6
 rw [e1, e2, e3, e4, e5, e6] at HH_p
 rw [e1] at r1 g_p_rels
 have RR_p_rels := Lib.hid r1
 rw [e2] at r2 g_p_vars
 have RR_p_vars := Lib.hid r2
 rw [e3] at r3 g_p_provides
 have RR_p_provides := Lib.hid r3
 rw [e4] at r4 g_p_deps
 have RR_p_deps := Lib.hid r4
 rw [e5] at r5 g_p_cons
 have RR_p_cons := Lib.hid r5
 rw [e6] at r6 g_p_files
 have RR_p_files := Lib.hid r6
 rw [e1, e2, e3, e4, e5, e6]
 clear e1 e2 e3 e4 e5 e6 r1 r2 r3 r4 r5 r6
 obtain ⟨W0, hW0⟩ : ∃ W0, W0 = (w.alloc (.cells #[.string p.name, .int .i64 p.line, .slice a_p_rels n_p_rels c_p_rels, .slice a_p_vars n_p_vars c_p_vars, .slice a_p_provides n_p_provides c_p_provides, .slice a_p_deps n_p_deps c_p_deps, .slice a_p_cons n_p_cons c_p_cons, .slice a_p_files n_p_files c_p_files] 36)) := ⟨_, rfl⟩
 have HOB : Hid (Only (fun _ => False) w W0) := by rw [hW0]; exact (Only.refl _ _).alloc _
 have HSz : Hid (W0.heap.size = w.heap.size + 1) := by rw [hW0]; simp [Hid]
 have HBox : Hid (∀ W, Only (fun _ => False) W0 W → W.cell? ⟨w.heap.size, 0, none⟩ = some (.string p.name) ∧ W.cell? ⟨w.heap.size, 1, none⟩ = some (.int .i64 p.line) ∧ W.cell? ⟨w.heap.size, 2, none⟩ = some (.slice a_p_rels n_p_rels c_p_rels) ∧ W.cell? ⟨w.heap.size, 3, none⟩ = some (.slice a_p_vars n_p_vars c_p_vars) ∧ W.cell? ⟨w.heap.size, 4, none⟩ = some (.slice a_p_provides n_p_provides c_p_provides) ∧ W.cell? ⟨w.heap.size, 5, none⟩ = some (.slice a_p_deps n_p_deps c_p_deps) ∧ W.cell? ⟨w.heap.size, 6, none⟩ = some (.slice a_p_cons n_p_cons c_p_cons) ∧ W.cell? ⟨w.heap.size, 7, none⟩ = some (.slice a_p_files n_p_files c_p_files)) := fun W ho => by
  have b0 : W0.heap[w.heap.size]? = some (.cells #[.string p.name, .int .i64 p.line, .slice a_p_rels n_p_rels c_p_rels, .slice a_p_vars n_p_vars c_p_vars, .slice a_p_provides n_p_provides c_p_provides, .slice a_p_deps n_p_deps c_p_deps, .slice a_p_cons n_p_cons c_p_cons, .slice a_p_files n_p_files c_p_files] 36) := by rw [hW0]; exact alloc_at rfl
  have d0 := only_block b0 ho (fun f => f)
  exact ⟨by rw [cell_block d0]; rfl, by rw [cell_block d0]; rfl, by rw [cell_block d0]; rfl, by rw [cell_block d0]; rfl, by rw [cell_block d0]; rfl, by rw [cell_block d0]; rfl, by rw [cell_block d0]; rfl, by rw [cell_block d0]; rfl⟩
 have HK_p : Hid (∀ W, Only (fun _ => False) W0 W → PackC B W [.string p.name, .int .i64 p.line, .slice a_p_rels n_p_rels c_p_rels, .slice a_p_vars n_p_vars c_p_vars, .slice a_p_provides n_p_provides c_p_provides, .slice a_p_deps n_p_deps c_p_deps, .slice a_p_cons n_p_cons c_p_cons, .slice a_p_files n_p_files c_p_files] p) := fun W ho => PackC.keep HH_p.out (Kp.of0 (HOB.out.same ho) : Kp B w W)
 have HR_p_rels : Hid (∀ W, Only (fun _ => False) W0 W → RowT 2 RelC B W (.slice a_p_rels n_p_rels c_p_rels) p.rels) := fun W ho => RR_p_rels.out.keep RelC.keep (Kp.of0 (HOB.out.same ho))
 clear RR_p_rels
 have HR_p_vars : Hid (∀ W, Only (fun _ => False) W0 W → RowT 2 VarC B W (.slice a_p_vars n_p_vars c_p_vars) p.vars) := fun W ho => RR_p_vars.out.keep VarC.keep (Kp.of0 (HOB.out.same ho))
 clear RR_p_vars
 have HR_p_provides : Hid (∀ W, Only (fun _ => False) W0 W → RowT 1 StrC B W (.slice a_p_provides n_p_provides c_p_provides) p.provides) := fun W ho => RR_p_provides.out.keep StrC.keep (Kp.of0 (HOB.out.same ho))
 clear RR_p_provides
 have HR_p_deps : Hid (∀ W, Only (fun _ => False) W0 W → RowT 7 DepC B W (.slice a_p_deps n_p_deps c_p_deps) p.deps) := fun W ho => RR_p_deps.out.keep DepC.keep (Kp.of0 (HOB.out.same ho))
 clear RR_p_deps
 have HR_p_cons : Hid (∀ W, Only (fun _ => False) W0 W → RowT 7 ConC B W (.slice a_p_cons n_p_cons c_p_cons) p.cons) := fun W ho => RR_p_cons.out.keep ConC.keep (Kp.of0 (HOB.out.same ho))
 clear RR_p_cons
 have HR_p_files : Hid (∀ W, Only (fun _ => False) W0 W → RowT 1 StrC B W (.slice a_p_files n_p_files c_p_files) p.files) := fun W ho => RR_p_files.out.keep StrC.keep (Kp.of0 (HOB.out.same ho))
 clear RR_p_files
 clear HH_p
 obtain ⟨r, hr⟩ : ∃ r, rank10 p v = r := ⟨_, rfl⟩
 rw [hr]
 have HRes := Lib.hid hr
 have HV := Lib.hid hv
 clear hr hv
 clear g_p_vars h_p_vars N_p_vars HR_p_vars g_p_provides h_p_provides N_p_provides HR_p_provides g_p_deps h_p_deps N_p_deps HR_p_deps g_p_cons h_p_cons N_p_cons HR_p_cons g_p_files h_p_files N_p_files HR_p_files
 go_enter Tryz.func8, Tryz.ntmps8
 go_wp2_with fail
 rw [← hW0]
 clear hW0
 obtain ⟨k0, k1, k2, k3, k4, k5, k6, k7⟩ := HBox.out W0 (Only.refl _ _)
 go_wp2_with fail
 go_loopw [5, 6, 7, 11] (fun vn vt _ vi wr => Hid (Only (fun _ => False) W0 wr) ∧ ∃ (i k : Nat) (q : Bool), vn = .int .i64 k ∧ vt = .bool q ∧ vi = .int .i64 i ∧ i ≤ n_p_rels ∧ k ≤ i ∧ Hid (((p.rels.take i).filter fun r => lessB v.toList r.version.toList).length = k) ∧ Hid (((p.rels.take i).any fun r => decide (r.version = v)) = q)) (fun _ _ _ v _ => n_p_rels - (RowKit.intOf v).toNat)
 case atStart => exact ⟨show Hid _ from Only.refl _ _, 0, 0, false, rfl, rfl, rfl, Nat.zero_le _, Nat.le_refl _, show Hid _ from by simp [Hid], show Hid _ from by simp [Hid]⟩
 case round =>
  clear k0 k1 k2 k3 k4 k5 k6 k7
  obtain ⟨HO, i, k, q, rfl, rfl, rfl, hi, hk, HK, HA⟩ := hrel
  have k2 := (HBox.out wr HO.out).2.2.1
  by_cases ci : i < n_p_rels
  ·have hrow := HR_p_rels.out wr HO.out
   have hrow0 := hrow
   rw [← N_p_rels.out] at hrow0
   obtain ⟨b, off, he, -, -⟩ := hrow0.at (by have := N_p_rels.out; omega)
   subst he
   obtain ⟨y, hx⟩ : ∃ y, p.rels[i]? = some y := ⟨_, List.getElem?_eq_getElem (by rw [N_p_rels.out]; omega)⟩
   obtain ⟨cs, hl, hr, hC⟩ := hrow.get hx
   clear hrow hrow0
   obtain ⟨rfl, hok⟩ := hC
   have hcell := hr 0 _ rfl
   simp only [Nat.add_zero] at hcell
   have ewi : IntKind.i64.wrap ((i : Int) + 1) = (i : Int) + 1 := by rw [IntKind.wrap_i64]; omega
   have ewk : IntKind.i64.wrap ((k : Int) + 1) = (k : Int) + 1 := by rw [IntKind.wrap_i64]; omega
   obtain ⟨z, hz⟩ : ∃ z, lessB v.toList y.version.toList = z := ⟨_, rfl⟩
   have HLs : Hid (∀ W, Calls Tryz.prog 20 #[.string v, .string y.version] W (fun e w' => e = .returned (.bool z) ∧ Only (fun _ => False) W w')) := fun W => Less_x v y.version HV.out hok z hz
   have HX := Lib.hid hx
   have HZ := Lib.hid hz
   clear hx hr hl hz
   cases q with
   | true =>
    have HA2 : Hid (((p.rels.take (i + 1)).any fun r => decide (r.version = v)) = true) := by
     rw [Hid, List.take_add_one, HX.out, List.any_append, HA.out]; simp
    go_wp2_with fail
    refine (HLs.out _).mono ?_
    rintro e w2 ⟨rfl, O2⟩
    have HO2 := Lib.hid (HO.out.same O2)
    clear O2
    cases z with
    | true =>
     have HK2 : Hid (((p.rels.take (i + 1)).filter fun r => lessB v.toList r.version.toList).length = k + 1) := by
      rw [Hid, List.take_add_one, HX.out, List.filter_append, List.length_append, HK.out]; simp [HZ.out]
     go_wp2_with fail
     go_roundw
     case rel => exact ⟨HO2, i + 1, k + 1, true, by first | rfl | go_num, rfl, by first | rfl | go_num, by omega, by omega, HK2, HA2⟩
     case measure => simp [RowKit.intOf] <;> omega
    | false =>
     have HK2 : Hid (((p.rels.take (i + 1)).filter fun r => lessB v.toList r.version.toList).length = k) := by
      rw [Hid, List.take_add_one, HX.out, List.filter_append, List.length_append, HK.out]; simp [HZ.out]
     go_wp2_with fail
     go_roundw
     case rel => exact ⟨HO2, i + 1, k, true, by first | rfl | go_num, rfl, by first | rfl | go_num, by omega, by omega, HK2, HA2⟩
     case measure => simp [RowKit.intOf] <;> omega
   | false =>
    obtain ⟨d, hbd⟩ : ∃ d, (y.version.toList == v.toList) = d := ⟨_, rfl⟩
    have hd2 : decide (y.version = v) = d := by rw [← bytes_dec, hbd]
    have HA2 : Hid (((p.rels.take (i + 1)).any fun r => decide (r.version = v)) = d) := by
     rw [Hid, List.take_add_one, HX.out, List.any_append, HA.out]; simp [hd2]
    clear hd2
    go_wp2_with fail
    refine (HLs.out _).mono ?_
    rintro e w2 ⟨rfl, O2⟩
    have HO2 := Lib.hid (HO.out.same O2)
    clear O2
    cases z with
    | true =>
     have HK2 : Hid (((p.rels.take (i + 1)).filter fun r => lessB v.toList r.version.toList).length = k + 1) := by
      rw [Hid, List.take_add_one, HX.out, List.filter_append, List.length_append, HK.out]; simp [HZ.out]
     go_wp2_with fail
     go_roundw
     case rel => exact ⟨HO2, i + 1, k + 1, d, by first | rfl | go_num, rfl, by first | rfl | go_num, by omega, by omega, HK2, HA2⟩
     case measure => simp [RowKit.intOf] <;> omega
    | false =>
     have HK2 : Hid (((p.rels.take (i + 1)).filter fun r => lessB v.toList r.version.toList).length = k) := by
      rw [Hid, List.take_add_one, HX.out, List.filter_append, List.length_append, HK.out]; simp [HZ.out]
     go_wp2_with fail
     go_roundw
     case rel => exact ⟨HO2, i + 1, k, d, by first | rfl | go_num, rfl, by first | rfl | go_num, by omega, by omega, HK2, HA2⟩
     case measure => simp [RowKit.intOf] <;> omega
  ·obtain rfl : n_p_rels = i := by omega
   have hK := HK.out
   have hA := HA.out
   rw [List.take_of_length_le (Nat.le_of_eq N_p_rels.out)] at hK hA
   have HR2 := HRes.out
   unfold rank10 at HR2
   rw [hA, hK] at HR2
   cases q with
   | true =>
    obtain rfl : (k : Int) = r := HR2
    go_wp2_with fail
    go_ret
    exact ⟨rfl, HOB.out.same HO.out⟩
   | false =>
    obtain rfl : (-1 : Int) = r := HR2
    go_wp2_with fail
    go_ret
    exact ⟨rfl, HOB.out.same HO.out⟩
set_option maxRecDepth 100000 in
set_option maxHeartbeats 2000000 in
theorem IndexS_x {vl : Value} {l : List Str} (hl : RowT 1 StrC B w vl l) (s : Str) :
  Calls Tryz.prog 21 #[vl, .string s] w fun e w' => e = .returned (.int .i64 (idxG (fun t => decide (t = s)) l)) ∧ Only (fun _ => False) w w' := by
 obtain ⟨a_l, c_l, rfl, g_l, g2_l⟩ := hl.shape
 obtain ⟨n_l, e1⟩ : ∃ n, l.length = n := ⟨_, rfl⟩
 have N_l := Lib.hid e1
 rw [e1] at hl g_l ⊢
 have RR_l := Lib.hid hl
 clear e1 hl
 obtain ⟨W0, hW0⟩ : ∃ W0, W0 = w := ⟨_, rfl⟩
 have HOB : Hid (Only (fun _ => False) w W0) := by rw [hW0]; exact Only.refl _ _
 have HR_l : Hid (∀ W, Only (fun _ => False) W0 W → RowT 1 StrC B W (.slice a_l n_l c_l) l) := fun W ho => RR_l.out.keep StrC.keep (Kp.of0 (HOB.out.same ho))
 clear RR_l
 obtain ⟨r, hr⟩ : ∃ r, idxG (fun t => decide (t = s)) l = r := ⟨_, rfl⟩
 rw [hr]
 have HRes := Lib.hid hr
 clear hr
 subst hW0
 go_enter Tryz.func21, Tryz.ntmps21
 go_wp2_with fail
 go_loopw [5, 8] (fun _ vi wr => Hid (Only (fun _ => False) W0 wr) ∧ ∃ i : Nat, vi = .int .i64 i ∧ i ≤ n_l ∧ Hid (∀ t ∈ l.take i, decide (t = s) = false)) (fun _ v _ => n_l - (RowKit.intOf v).toNat)
 case atStart => exact ⟨show Hid _ from Only.refl _ _, 0, rfl, Nat.zero_le _, show Hid _ from by simp [Hid]⟩
 case round =>
  obtain ⟨HO, i, rfl, hi, HZ⟩ := hrel
  by_cases ci : i < n_l
  ·have hrow := HR_l.out wr HO.out
   have hrow0 := hrow
   rw [← N_l.out] at hrow0
   obtain ⟨b, off, he, -, -⟩ := hrow0.at (by have := N_l.out; omega)
   subst he
   obtain ⟨y, hx⟩ : ∃ y, l[i]? = some y := ⟨_, List.getElem?_eq_getElem (by rw [N_l.out]; omega)⟩
   obtain ⟨cs, hl, hr, hC⟩ := hrow.get hx
   clear hrow hrow0
   obtain ⟨rfl, -⟩ := hC
   have hcell := hr 0 _ rfl
   simp only [Nat.mul_one, Nat.add_zero] at hcell
   have ewi : IntKind.i64.wrap ((i : Int) + 1) = (i : Int) + 1 := by rw [IntKind.wrap_i64]; omega
   have HX := Lib.hid hx
   clear hx hr hl
   by_cases hy : y = s
   ·have hbd : (s.toList == y.toList) = true := by rw [hy]; exact beq_self_eq_true _
    have hri : r = i := by rw [← HRes.out]; exact idxG_hit HX.out (decide_eq_true hy) HZ.out
    subst hri
    clear hy
    go_wp2_with fail
    go_ret
    exact ⟨rfl, HOB.out.same HO.out⟩
   ·have hbd : (s.toList == y.toList) = false := by rw [beq_eq_false_iff_ne]; exact fun h => hy (toList_inj h.symm)
    have HD := Lib.hid (decide_eq_false hy)
    have HZ2 : Hid (∀ t ∈ l.take (i + 1), decide (t = s) = false) := fun z hz => by
     rcases mem_take_snoc HX.out hz with h | rfl
     ·exact HZ.out z h
     ·exact HD.out
    clear hy
    go_wp2_with fail
    go_roundw
    case rel => exact ⟨HO, i + 1, by first | rfl | go_num, by omega, HZ2⟩
    case measure => simp [RowKit.intOf] <;> omega
  ·obtain rfl : n_l = i := by omega
   have hri : r = -1 := by
    rw [← HRes.out]
    have := HZ.out
    rw [List.take_of_length_le (Nat.le_of_eq N_l.out)] at this
    exact idxG_none this
   subst hri
   go_wp2_with fail
   go_ret
   exact ⟨rfl, HOB.out.same HO.out⟩
set_option maxRecDepth 100000 in
set_option maxHeartbeats 2000000 in
theorem Prefer_x {csx : List Value} {x : RecD} (hx : RecC B w csx x) (virtual : Str) (name : Str) :
  Calls Tryz.prog 9 #[.agg csx.toArray, .string virtual, .string name] w fun e w' => e = .returned (.int .i64 (prefOf x.prefs virtual name)) ∧ Only (fun _ => False) w w' := by
 have HH_x := Lib.hid hx
 obtain ⟨u1, u2, rfl, r1, r2⟩ := hx
 obtain ⟨a_x_packs, c_x_packs, rfl, g_x_packs, h_x_packs⟩ := r1.shape
 obtain ⟨n_x_packs, e1⟩ : ∃ n, x.packs.length = n := ⟨_, rfl⟩
 have N_x_packs := Lib.hid e1
 obtain ⟨a_x_prefs, c_x_prefs, rfl, g_x_prefs, h_x_prefs⟩ := r2.shape
 obtain ⟨n_x_prefs, e2⟩ : ∃ n, x.prefs.length = n := ⟨_, rfl⟩
 have N_x_prefs := Lib.hid e2
 rw [e1, e2] at HH_x
 rw [e1] at r1 g_x_packs
 have RR_x_packs := Lib.hid r1
 rw [e2] at r2 g_x_prefs
 have RR_x_prefs := Lib.hid r2
 rw [e1, e2]
 clear e1 e2 r1 r2
 obtain ⟨W0, hW0⟩ : ∃ W0, W0 = (w.alloc (.cells #[.slice a_x_packs n_x_packs c_x_packs, .slice a_x_prefs n_x_prefs c_x_prefs] 25)) := ⟨_, rfl⟩
 have HOB : Hid (Only (fun _ => False) w W0) := by rw [hW0]; exact (Only.refl _ _).alloc _
 have HSz : Hid (W0.heap.size = w.heap.size + 1) := by rw [hW0]; simp [Hid]
 have HBox : Hid (∀ W, Only (fun _ => False) W0 W → W.cell? ⟨w.heap.size, 0, none⟩ = some (.slice a_x_packs n_x_packs c_x_packs) ∧ W.cell? ⟨w.heap.size, 1, none⟩ = some (.slice a_x_prefs n_x_prefs c_x_prefs)) := fun W ho => by
  have b0 : W0.heap[w.heap.size]? = some (.cells #[.slice a_x_packs n_x_packs c_x_packs, .slice a_x_prefs n_x_prefs c_x_prefs] 25) := by rw [hW0]; exact alloc_at rfl
  have d0 := only_block b0 ho (fun f => f)
  exact ⟨by rw [cell_block d0]; rfl, by rw [cell_block d0]; rfl⟩
 have HK_x : Hid (∀ W, Only (fun _ => False) W0 W → RecC B W [.slice a_x_packs n_x_packs c_x_packs, .slice a_x_prefs n_x_prefs c_x_prefs] x) := fun W ho => RecC.keep HH_x.out (Kp.of0 (HOB.out.same ho) : Kp B w W)
 have HR_x_packs : Hid (∀ W, Only (fun _ => False) W0 W → RowT 8 PackC B W (.slice a_x_packs n_x_packs c_x_packs) x.packs) := fun W ho => RR_x_packs.out.keep PackC.keep (Kp.of0 (HOB.out.same ho))
 clear RR_x_packs
 have HR_x_prefs : Hid (∀ W, Only (fun _ => False) W0 W → RowT 3 PrefC B W (.slice a_x_prefs n_x_prefs c_x_prefs) x.prefs) := fun W ho => RR_x_prefs.out.keep PrefC.keep (Kp.of0 (HOB.out.same ho))
 clear RR_x_prefs
 clear HH_x
 obtain ⟨r, hr⟩ : ∃ r, prefOf x.prefs virtual name = r := ⟨_, rfl⟩
 rw [hr]
 have HRes := Lib.hid hr
 clear hr
 clear g_x_packs h_x_packs N_x_packs HR_x_packs
 go_enter Tryz.func9, Tryz.ntmps9
 go_wp2_with fail
 rw [← hW0]
 clear hW0
 obtain ⟨k0, k1⟩ := HBox.out W0 (Only.refl _ _)
 go_wp2_with fail
 go_loopw [8, 13] (fun _ vi wr => Hid (Only (fun _ => False) W0 wr) ∧ ∃ i : Nat, vi = .int .i64 i ∧ i ≤ n_x_prefs ∧ Hid (∀ y ∈ x.prefs.take i, y.virtual ≠ virtual)) (fun _ v _ => n_x_prefs - (RowKit.intOf v).toNat)
 case atStart => exact ⟨show Hid _ from Only.refl _ _, 0, rfl, Nat.zero_le _, show Hid _ from fun y hy => by simp at hy⟩
 case round =>
  clear k0 k1
  obtain ⟨HO, i, rfl, hi, HZ⟩ := hrel
  by_cases ci : i < n_x_prefs
  ·obtain ⟨y, hx⟩ : ∃ y, x.prefs[i]? = some y := ⟨_, List.getElem?_eq_getElem (by rw [N_x_prefs.out]; omega)⟩
   obtain ⟨b, off, a1, m1, c1, he, hm1, hok, hin, hE⟩ := PrefC_at (HR_x_prefs.out wr HO.out) hx
   subst he
   have ewi : IntKind.i64.wrap ((i : Int) + 1) = (i : Int) + 1 := by rw [IntKind.wrap_i64]; omega
   have hrg := (hE wr (Only.refl _ _)).1
   have g0 := hrg 0 _ rfl
   have g1 := hrg 1 _ rfl
   have g2 := hrg 2 _ rfl
   rw [Nat.add_zero] at g0
   have HX := Lib.hid hx
   have HM1 := Lib.hid hm1
   obtain ⟨N, hN⟩ : ∃ N, wr.heap.size = N := ⟨_, rfl⟩
   obtain ⟨w4, hw4⟩ : ∃ W, wr.alloc (.cells #[.string y.virtual, .slice a1 m1 c1, .int .i64 y.line] 44) = W := ⟨_, rfl⟩
   have hb4 : w4.heap[N]? = some (.cells #[.string y.virtual, .slice a1 m1 c1, .int .i64 y.line] 44 (0, 0)) := by rw [← hw4, ← hN]; exact heap_alloc_new _ _
   have o4 : Only (fun _ => False) wr w4 := by rw [← hw4]; exact (Only.refl _ _).alloc _
   have HB4 : Hid (∀ W, Only (fun _ => False) w4 W → W.cell? ⟨N, 0, none⟩ = some (.string y.virtual) ∧ W.cell? ⟨N, 1, none⟩ = some (.slice a1 m1 c1)) := fun W o => by
    have e := only_block hb4 o (fun f => f)
    exact ⟨by rw [cell_block e]; rfl, by rw [cell_block e]; rfl⟩
   have HO4 := Lib.hid (HO.out.same o4)
   have HRow : Hid (∀ W, Only (fun _ => False) w4 W → RowT 1 StrC B W (.slice a1 m1 c1) y.names) := fun W o => (hE W (o4.same o)).2.1
   obtain ⟨q0, q1⟩ := HB4.out w4 (Only.refl _ _)
   clear hx hrg hE hb4 o4 hm1
   by_cases hy : y.virtual = virtual
   ·have hbd : (y.virtual.toList == virtual.toList) = true := by rw [hy]; exact beq_self_eq_true _
    have hR := HRes.out
    rw [pref_hit HX.out hy HZ.out] at hR
    unfold prefNo at hR
    have HIx := Lib.hid (IndexS_x (HRow.out w4 (Only.refl _ _)) name)
    obtain ⟨f, hf⟩ : ∃ f, idxG (fun t => decide (t = name)) y.names = f := ⟨_, rfl⟩
    rw [hf] at hR HIx
    clear hy hf
    go_wp2_with fail
    refine HIx.out.mono ?_
    rintro e w5 ⟨rfl, O5⟩
    have HO5 := Lib.hid (HO4.out.same O5)
    obtain ⟨q2, q3⟩ := HB4.out w5 O5
    clear O5
    by_cases hf0 : 0 ≤ f
    ·rw [if_pos hf0] at hR
     subst hR
     go_wp2_with fail
     go_ret
     exact ⟨rfl, HOB.out.same HO5.out⟩
    ·rw [if_neg hf0, HM1.out] at hR
     subst hR
     go_wp2_with fail
     go_ret
     exact ⟨rfl, HOB.out.same HO5.out⟩
   ·have hbd : (y.virtual.toList == virtual.toList) = false := by rw [beq_eq_false_iff_ne]; exact fun h => hy (toList_inj h)
    have HY := Lib.hid hy
    have HZ2 : Hid (∀ y ∈ x.prefs.take (i + 1), y.virtual ≠ virtual) := fun z hz => by
     rcases mem_take_snoc HX.out hz with h | rfl
     ·exact HZ.out z h
     ·exact HY.out
    clear hy
    go_wp2_with fail
    go_roundw
    case rel => exact ⟨HO4, i + 1, by first | rfl | go_num, by omega, HZ2⟩
    case measure => simp [RowKit.intOf] <;> omega
  ·obtain rfl : n_x_prefs = i := by omega
   have hri : r = 0 := by
    rw [← HRes.out]
    have := HZ.out
    rw [List.take_of_length_le (Nat.le_of_eq N_x_prefs.out)] at this
    exact pref_none this
   subst hri
   go_wp2_with fail
   go_ret
   exact ⟨rfl, HOB.out.same HO.out⟩
set_option maxRecDepth 100000 in
set_option maxHeartbeats 2000000 in
theorem Prefer10_x {csx : List Value} {x : RecD} (hx : RecC B w csx x) (virtual : Str) (name : Str) :
  Calls Tryz.prog 10 #[.agg csx.toArray, .string virtual, .string name] w fun e w' => e = .returned (.int .i64 (prefOf x.prefs virtual name)) ∧ Only (fun _ => False) w w' := by
 have HH_x := Lib.hid hx
 obtain ⟨u1, u2, rfl, r1, r2⟩ := hx
 obtain ⟨a_x_packs, c_x_packs, rfl, g_x_packs, h_x_packs⟩ := r1.shape
 obtain ⟨n_x_packs, e1⟩ : ∃ n, x.packs.length = n := ⟨_, rfl⟩
 have N_x_packs := Lib.hid e1
 obtain ⟨a_x_prefs, c_x_prefs, rfl, g_x_prefs, h_x_prefs⟩ := r2.shape
 obtain ⟨n_x_prefs, e2⟩ : ∃ n, x.prefs.length = n := ⟨_, rfl⟩
 have N_x_prefs := Lib.hid e2
 rw [e1, e2] at HH_x
 rw [e1] at r1 g_x_packs
 have RR_x_packs := Lib.hid r1
 rw [e2] at r2 g_x_prefs
 have RR_x_prefs := Lib.hid r2
 rw [e1, e2]
 clear e1 e2 r1 r2
 obtain ⟨W0, hW0⟩ : ∃ W0, W0 = (w.alloc (.cells #[.slice a_x_packs n_x_packs c_x_packs, .slice a_x_prefs n_x_prefs c_x_prefs] 25)) := ⟨_, rfl⟩
 have HOB : Hid (Only (fun _ => False) w W0) := by rw [hW0]; exact (Only.refl _ _).alloc _
 have HSz : Hid (W0.heap.size = w.heap.size + 1) := by rw [hW0]; simp [Hid]
 have HBox : Hid (∀ W, Only (fun _ => False) W0 W → W.cell? ⟨w.heap.size, 0, none⟩ = some (.slice a_x_packs n_x_packs c_x_packs) ∧ W.cell? ⟨w.heap.size, 1, none⟩ = some (.slice a_x_prefs n_x_prefs c_x_prefs)) := fun W ho => by
  have b0 : W0.heap[w.heap.size]? = some (.cells #[.slice a_x_packs n_x_packs c_x_packs, .slice a_x_prefs n_x_prefs c_x_prefs] 25) := by rw [hW0]; exact alloc_at rfl
  have d0 := only_block b0 ho (fun f => f)
  exact ⟨by rw [cell_block d0]; rfl, by rw [cell_block d0]; rfl⟩
 have HK_x : Hid (∀ W, Only (fun _ => False) W0 W → RecC B W [.slice a_x_packs n_x_packs c_x_packs, .slice a_x_prefs n_x_prefs c_x_prefs] x) := fun W ho => RecC.keep HH_x.out (Kp.of0 (HOB.out.same ho) : Kp B w W)
 have HR_x_packs : Hid (∀ W, Only (fun _ => False) W0 W → RowT 8 PackC B W (.slice a_x_packs n_x_packs c_x_packs) x.packs) := fun W ho => RR_x_packs.out.keep PackC.keep (Kp.of0 (HOB.out.same ho))
 clear RR_x_packs
 have HR_x_prefs : Hid (∀ W, Only (fun _ => False) W0 W → RowT 3 PrefC B W (.slice a_x_prefs n_x_prefs c_x_prefs) x.prefs) := fun W ho => RR_x_prefs.out.keep PrefC.keep (Kp.of0 (HOB.out.same ho))
 clear RR_x_prefs
 clear HH_x
 obtain ⟨r, hr⟩ : ∃ r, prefOf x.prefs virtual name = r := ⟨_, rfl⟩
 rw [hr]
 have HRes := Lib.hid hr
 clear hr
 clear g_x_packs h_x_packs N_x_packs HR_x_packs
 go_enter Tryz.func10, Tryz.ntmps10
 go_wp2_with fail
 rw [← hW0]
 clear hW0
 obtain ⟨k0, k1⟩ := HBox.out W0 (Only.refl _ _)
 go_wp2_with fail
 go_loopw [7, 8, 9, 13] (fun _ _ _ vi wr => Hid (Only (fun _ => False) W0 wr) ∧ ∃ i : Nat, vi = .int .i64 i ∧ i ≤ n_x_prefs ∧ Hid (∀ y ∈ x.prefs.take i, y.virtual ≠ virtual)) (fun _ _ _ v _ => n_x_prefs - (RowKit.intOf v).toNat)
 case atStart => exact ⟨show Hid _ from Only.refl _ _, 0, rfl, Nat.zero_le _, show Hid _ from fun y hy => by simp at hy⟩
 case round =>
  clear k0 k1
  obtain ⟨HO, i, rfl, hi, HZ⟩ := hrel
  obtain ⟨k0, k1⟩ := HBox.out wr HO.out
  by_cases ci : i < n_x_prefs
  ·obtain ⟨y, hx⟩ : ∃ y, x.prefs[i]? = some y := ⟨_, List.getElem?_eq_getElem (by rw [N_x_prefs.out]; omega)⟩
   obtain ⟨b, off, a1, m1, c1, he, hm1, hok, hin, hE⟩ := PrefC_at (HR_x_prefs.out wr HO.out) hx
   subst he
   have ewi : IntKind.i64.wrap ((i : Int) + 1) = (i : Int) + 1 := by rw [IntKind.wrap_i64]; omega
   have hrg := (hE wr (Only.refl _ _)).1
   have g0 := hrg 0 _ rfl
   have g1 := hrg 1 _ rfl
   rw [Nat.add_zero] at g0
   have HX := Lib.hid hx
   have HM1 := Lib.hid hm1
   have HRow : Hid (∀ W, Only (fun _ => False) wr W → RowT 1 StrC B W (.slice a1 m1 c1) y.names) := fun W o => (hE W o).2.1
   clear hx hrg hE hm1
   by_cases hy : y.virtual = virtual
   ·have hbd : (y.virtual.toList == virtual.toList) = true := by rw [hy]; exact beq_self_eq_true _
    have hR := HRes.out
    rw [pref_hit HX.out hy HZ.out] at hR
    have HR2 := Lib.hid hR
    clear hy hR
    go_wp2_with fail
    have hm1b : m1 ≤ 9223372036854775807 := by
     obtain ⟨_, _, -, h2, h3⟩ := (HRow.out wr (Only.refl _ _)).shape
     have := HM1.out
     omega
    generalize wr = wo at *
    go_loopw [9, 32] (fun _ vj wq => Hid (Only (fun _ => False) wo wq) ∧ ∃ j : Nat, vj = .int .i64 j ∧ j ≤ m1 ∧ Hid (∀ t ∈ y.names.take j, t ≠ name)) (fun _ v _ => m1 - (RowKit.intOf v).toNat)
    case atStart => exact ⟨show Hid _ from Only.refl _ _, 0, rfl, Nat.zero_le _, show Hid _ from fun y hy => by simp at hy⟩
    case round =>
     obtain ⟨HOj, j, rfl, hj, HJ⟩ := hrel
     by_cases cj : j < m1
     ·obtain ⟨t, ht⟩ : ∃ t, y.names[j]? = some t := ⟨_, List.getElem?_eq_getElem (by rw [HM1.out]; omega)⟩
      obtain ⟨b2, off2, he2, -, hE2⟩ := StrC_at (HRow.out wr HOj.out) ht
      subst he2
      have ewj : IntKind.i64.wrap ((j : Int) + 1) = (j : Int) + 1 := by rw [IntKind.wrap_i64]; omega
      have gt := (hE2 wr (Only.refl _ _)).1 0 _ rfl
      rw [Nat.add_zero, Nat.mul_one] at gt
      have HT := Lib.hid ht
      clear ht hE2
      by_cases hn : t = name
      ·have hbd2 : (t.toList == name.toList) = true := by rw [hn]; exact beq_self_eq_true _
       have hrj : r = j := by rw [← HR2.out]; exact prefNo_hit HT.out hn HJ.out
       subst hrj
       clear hn
       go_wp2_with fail
       go_ret
       exact ⟨rfl, HOB.out.same (HO.out.same HOj.out)⟩
      ·have hbd2 : (t.toList == name.toList) = false := by rw [beq_eq_false_iff_ne]; exact fun h => hn (toList_inj h)
       have HNn := Lib.hid hn
       have HJ2 : Hid (∀ t ∈ y.names.take (j + 1), t ≠ name) := fun z hz => by
        rcases mem_take_snoc HT.out hz with h | rfl
        ·exact HJ.out z h
        ·exact HNn.out
       clear hn
       go_wp2_with fail
       go_roundw
       case rel => exact ⟨HOj, j + 1, by first | rfl | go_num, by omega, HJ2⟩
       case measure => simp [RowKit.intOf] <;> omega
     ·obtain rfl : m1 = j := by omega
      have hrj : r = m1 := by
       rw [← HR2.out, ← HM1.out]
       have := HJ.out
       rw [List.take_of_length_le (Nat.le_of_eq HM1.out)] at this
       exact prefNo_none this
      subst hrj
      go_wp2_with fail
      go_ret
      exact ⟨rfl, HOB.out.same (HO.out.same HOj.out)⟩
   ·have hbd : (y.virtual.toList == virtual.toList) = false := by rw [beq_eq_false_iff_ne]; exact fun h => hy (toList_inj h)
    have HY := Lib.hid hy
    have HZ2 : Hid (∀ y ∈ x.prefs.take (i + 1), y.virtual ≠ virtual) := fun z hz => by
     rcases mem_take_snoc HX.out hz with h | rfl
     ·exact HZ.out z h
     ·exact HY.out
    clear hy
    go_wp2_with fail
    go_roundw
    case rel => exact ⟨HO, i + 1, by first | rfl | go_num, by omega, HZ2⟩
    case measure => simp [RowKit.intOf] <;> omega
  ·obtain rfl : n_x_prefs = i := by omega
   have hri : r = 0 := by
    rw [← HRes.out]
    have := HZ.out
    rw [List.take_of_length_le (Nat.le_of_eq N_x_prefs.out)] at this
    exact pref_none this
   subst hri
   go_wp2_with fail
   go_ret
   exact ⟨rfl, HOB.out.same HO.out⟩
set_option maxRecDepth 100000 in
theorem Targets10_x {cs : List Value} {x : RecD} (h : RecC B w cs x) (hlen : x.packs.length ≤ 1000000) (s : Str) :
  Calls Tryz.prog 13 #[.agg cs.toArray, .string s] w fun e w' => ∃ v, e = .returned v ∧ w'.ownsRow 0 3 1 v (x.targets s).length (natsV (x.targets s)) ∧ (∀ k, v.ownBlock = some k → w.heap.size ≤ k) ∧ Only (fun _ => False) w w' := by
 have HH := Lib.hid h
 obtain ⟨v1, v2, rfl, h1, h2⟩ := h
 obtain ⟨ao, cap, rfl, -, -⟩ := h1.shape
 obtain ⟨ao2, cap2, rfl, -, -⟩ := h2.shape
 obtain ⟨f, hf⟩ : ∃ f, x.find s = f := ⟨_, rfl⟩
 have hlt := x.find_lt s
 have hge : -1 ≤ x.find s := by
  rcases idxG_range (fun p => decide (p.name = s)) x.packs with h | ⟨k, h, _⟩
  ·unfold RecD.find; rw [h]; omega
  ·unfold RecD.find; rw [h]; omega
 have HT : Hid (x.targets s = if 0 ≤ f then [f.toNat] else x.provs s) := by unfold RecD.targets; rw [hf]; exact rfl
 have HF := Lib.hid (Find9_any (RecC.keep HH.out (Kp.of0 ((Only.refl (fun _ => False) w).alloc (.cells #[.slice ao x.packs.length cap, .slice ao2 x.prefs.length cap2] 25)))) s)
 have HPv := fun W hO => Lib.hid (Providers9_any (w := W) (RecC.keep HH.out (Kp.of0 hO)) hlen s)
 rw [hf] at hlt hge HF
 clear hf h1 h2
 go_enter Tryz.func13, Tryz.ntmps13
 go_wp2_with fail
 refine HF.out.mono ?_
 rintro e w1 ⟨rfl, O1⟩
 have HO1 := Lib.hid (((Only.refl (fun _ => False) w).alloc _).same O1)
 have hw1 := O1.size
 simp only [World.size_alloc] at hw1
 have hcell : w1.cell? ⟨w.heap.size, 0, none⟩ = some (.slice ao x.packs.length cap) ∧ w1.cell? ⟨w.heap.size, 1, none⟩ = some (.slice ao2 x.prefs.length cap2) := by
  constructor
  ·rw [World.cell?_of_block (w := w.alloc (.cells #[.slice ao x.packs.length cap, .slice ao2 x.prefs.length cap2] 25)) (O1.block _ (by simp) (fun f => f))]; simp
  ·rw [World.cell?_of_block (w := w.alloc (.cells #[.slice ao x.packs.length cap, .slice ao2 x.prefs.length cap2] 25)) (O1.block _ (by simp) (fun f => f))]; simp
 obtain ⟨hc1, hc2⟩ := hcell
 have HPv1 := HPv w1 HO1.out
 clear O1 HPv HF
 by_cases hf0 : 0 ≤ f
 ·go_wp2_with fail
  go_ret
  refine ⟨_, rfl, ?_, fun k hk => ?_, HO1.out.alloc _⟩
  ·rw [HT.out, if_pos hf0]
   have := World.ownsRow_lit (base := 0) (e := 3) (size := 1) w1 #[.int .i64 f] 1 (Nat.zero_le _) (by unfold maxLen; omega) (by simp)
   simpa [natsV, Int.toNat_of_nonneg hf0] using this
  ·simp [Value.ownBlock] at hk; omega
 ·have hT2 : x.targets s = x.provs s := by rw [HT.out, if_neg hf0]
  rw [← hT2] at HPv1
  clear hT2
  go_wp2_with fail
  refine HPv1.out.mono ?_
  rintro e w2 ⟨v, rfl, r1, r2, r3⟩
  have HR := Lib.hid (And.intro r1 (And.intro r2 r3))
  obtain ⟨av, cv, rfl, -, -⟩ := own_slice r1
  clear r1 r2 r3
  go_wp2_with fail
  go_ret
  obtain ⟨r1, r2, r3⟩ := HR.out
  exact ⟨_, rfl, r1, fun k hk => by have := r2 k hk; omega, HO1.out.same r3⟩
end
end Go.Proofs.YtmlfchjompfmaaaGreatDoor

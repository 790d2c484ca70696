/- Rf1 Rf2, in one text. -/
import Derived.Test.YtmlfchjompfmaaaGreatDoorNd2
import Derived.Test.YtmlfchjompfmaaaGreatDoorStepA
import Derived.Test.YtmlfchjompfmaaaGreatDoorAllocB
import Derived.Test.YtmlfchjompfmaaaGreatDoorNdA
import Derived.Test.YtmlfchjompfmaaaGreatDoorStrA
set_option linter.unusedVariables false
namespace Go.Proofs.YtmlfchjompfmaaaGreatDoor
open Go.RowKit
section
variable {w w' : World} {B : Nat}
set_option maxRecDepth 100000 in
set_option maxHeartbeats 2000000 in
theorem Has9_any {vl : Value} {l : List Str} (hl : RowT 1 StrC B w vl l) (s : Str) :
  Calls Tryz.prog 42 #[vl, .string s] w fun e w' => e = .returned (.bool (hasS l s)) ∧ Only (fun _ => False) w w' := by
 obtain ⟨a_l, c_l, rfl, g_l, g2_l⟩ := hl.shape
 obtain ⟨n_l, e1⟩ : ∃ n, l.length = n := ⟨_, rfl⟩
 have N_l := Lib.hid e1
 rw [e1] at hl g_l ⊢
 have RR_l := Lib.hid hl
 clear e1 hl
 obtain ⟨W0, hW0⟩ : ∃ W0, W0 = w := ⟨_, rfl⟩
 have HOB : Hid (Only (fun _ => False) w W0) := by rw [hW0]; exact Only.refl _ _
 have HR_l : Hid (∀ W, Only (fun _ => False) W0 W → RowT 1 StrC B W (.slice a_l n_l c_l) l) := fun W ho => RR_l.out.keep StrC.keep (Kp.of0 (HOB.out.same ho))
 clear RR_l
 obtain ⟨r, hr⟩ : ∃ r, hasS l s = r := ⟨_, rfl⟩
 rw [hr]
 have HRes := Lib.hid hr
 clear hr
 subst hW0
 go_enter Tryz.func42, Tryz.ntmps42
 go_wp2_with fail
 go_loopw [8] (fun vi wr => Hid (Only (fun _ => False) W0 wr) ∧ ∃ i : Nat, vi = .int .i64 i ∧ i ≤ n_l ∧ Hid (s ∉ l.take i)) (fun v _ => n_l - (RowKit.intOf v).toNat)
 case atStart => exact ⟨show Hid _ from Only.refl _ _, 0, rfl, Nat.zero_le _, show Hid _ from by simp [Hid]⟩
 case round =>
  obtain ⟨HO, i, rfl, hi, HZ⟩ := hrel
  by_cases ci : i < n_l
  ·have hrow := HR_l.out wr HO.out
   have hrow0 := hrow
   rw [← N_l.out] at hrow0
   obtain ⟨b, off, he, -, -⟩ := hrow0.at (by have := N_l.out; omega)
   subst he
   obtain ⟨y, hx⟩ : ∃ y, l[i]? = some y := ⟨_, List.getElem?_eq_getElem (by rw [N_l.out]; omega)⟩
   obtain ⟨cs, hl, hr, hC⟩ := hrow.get hx
   clear hrow hrow0
   obtain ⟨rfl, -⟩ := hC
   have hcell := hr 0 _ rfl
   simp only [Nat.mul_one, Nat.add_zero] at hcell
   have ewi : IntKind.i64.wrap ((i : Int) + 1) = (i : Int) + 1 := by rw [IntKind.wrap_i64]; omega
   have hbd := bytes_dec y s
   have HX := Lib.hid hx
   clear hx hr hl
   by_cases hy : y = s
   ·have hd : decide (y = s) = true := decide_eq_true hy
    have hrt : r = true := by rw [← HRes.out, hasS_iff, ← hy]; exact List.mem_of_getElem? HX.out
    subst hrt
    rw [hd] at hbd
    clear hd hy
    go_wp2_with fail
    go_ret
    exact ⟨rfl, HOB.out.same HO.out⟩
   ·have hd : decide (y = s) = false := decide_eq_false hy
    rw [hd] at hbd
    have HZ2 : Hid (s ∉ l.take (i + 1)) := fun hm => by
     rcases mem_take_snoc HX.out hm with h | h
     ·exact HZ.out h
     ·exact hy h.symm
    clear hd hy
    go_wp2_with fail
    go_roundw
    case rel => exact ⟨HO, i + 1, by first | rfl | go_num, by omega, HZ2⟩
    case measure => simp [RowKit.intOf] <;> omega
  ·obtain rfl : n_l = i := by omega
   have hrf : r = false := by
    rw [← HRes.out, Bool.eq_false_iff]
    intro h
    have := HZ.out
    rw [List.take_of_length_le (Nat.le_of_eq N_l.out)] at this
    exact this (hasS_iff.1 h)
   subst hrf
   go_wp2_with fail
   go_ret
   exact ⟨rfl, HOB.out.same HO.out⟩
set_option maxRecDepth 100000 in
set_option maxHeartbeats 2000000 in
theorem Find9_any {csx : List Value} {x : RecD} (hx : RecC B w csx x) (s : Str) :
  Calls Tryz.prog 24 #[.agg csx.toArray, .string s] w fun e w' => e = .returned (.int .i64 (x.find s)) ∧ Only (fun _ => False) w w' := by
 have HH_x := Lib.hid hx
 obtain ⟨u1, u2, rfl, r1, r2⟩ := hx
 obtain ⟨a_x_packs, c_x_packs, rfl, g_x_packs, h_x_packs⟩ := r1.shape
 obtain ⟨n_x_packs, e1⟩ : ∃ n, x.packs.length = n := ⟨_, rfl⟩
 have N_x_packs := Lib.hid e1
 obtain ⟨a_x_prefs, c_x_prefs, rfl, g_x_prefs, h_x_prefs⟩ := r2.shape
 obtain ⟨n_x_prefs, e2⟩ : ∃ n, x.prefs.length = n := ⟨_, rfl⟩
 have N_x_prefs := Lib.hid e2
 rw [e1, e2] at HH_x
 rw [e1] at r1 g_x_packs
 have RR_x_packs := Lib.hid r1
 rw [e2] at r2 g_x_prefs
 have RR_x_prefs := Lib.hid r2
 rw [e1, e2]
 clear e1 e2 r1 r2
 obtain ⟨W0, hW0⟩ : ∃ W0, W0 = (w.alloc (.cells #[.slice a_x_packs n_x_packs c_x_packs, .slice a_x_prefs n_x_prefs c_x_prefs] 25)) := ⟨_, rfl⟩
 have HOB : Hid (Only (fun _ => False) w W0) := by rw [hW0]; exact (Only.refl _ _).alloc _
 have HSz : Hid (W0.heap.size = w.heap.size + 1) := by rw [hW0]; simp [Hid]
 have HBox : Hid (∀ W, Only (fun _ => False) W0 W → W.cell? ⟨w.heap.size, 0, none⟩ = some (.slice a_x_packs n_x_packs c_x_packs) ∧ W.cell? ⟨w.heap.size, 1, none⟩ = some (.slice a_x_prefs n_x_prefs c_x_prefs)) := fun W ho => by
  have b0 : W0.heap[w.heap.size]? = some (.cells #[.slice a_x_packs n_x_packs c_x_packs, .slice a_x_prefs n_x_prefs c_x_prefs] 25) := by rw [hW0]; exact alloc_at rfl
  have d0 := only_block b0 ho (fun f => f)
  exact ⟨by rw [cell_block d0]; rfl, by rw [cell_block d0]; rfl⟩
 have HK_x : Hid (∀ W, Only (fun _ => False) W0 W → RecC B W [.slice a_x_packs n_x_packs c_x_packs, .slice a_x_prefs n_x_prefs c_x_prefs] x) := fun W ho => RecC.keep HH_x.out (Kp.of0 (HOB.out.same ho) : Kp B w W)
 have HR_x_packs : Hid (∀ W, Only (fun _ => False) W0 W → RowT 8 PackC B W (.slice a_x_packs n_x_packs c_x_packs) x.packs) := fun W ho => RR_x_packs.out.keep PackC.keep (Kp.of0 (HOB.out.same ho))
 clear RR_x_packs
 have HR_x_prefs : Hid (∀ W, Only (fun _ => False) W0 W → RowT 3 PrefC B W (.slice a_x_prefs n_x_prefs c_x_prefs) x.prefs) := fun W ho => RR_x_prefs.out.keep PrefC.keep (Kp.of0 (HOB.out.same ho))
 clear RR_x_prefs
 clear HH_x
 obtain ⟨r, hr⟩ : ∃ r, x.find s = r := ⟨_, rfl⟩
 rw [hr]
 have HRes := Lib.hid hr
 clear hr
 go_enter Tryz.func24, Tryz.ntmps24
 go_wp2_with fail
 rw [← hW0]
 clear hW0
 obtain ⟨k0, k1⟩ := HBox.out W0 (Only.refl _ _)
 go_wp2_with fail
 go_loopw [9] (fun vi wr => Hid (Only (fun _ => False) W0 wr) ∧ ∃ i : Nat, vi = .int .i64 i ∧ i ≤ n_x_packs ∧ Hid (∀ y ∈ x.packs.take i, decide (y.name = s) = false)) (fun v _ => n_x_packs - (RowKit.intOf v).toNat)
 case atStart => exact ⟨show Hid _ from Only.refl _ _, 0, rfl, Nat.zero_le _, show Hid _ from fun y hy => by simp at hy⟩
 case round =>
  clear k0 k1
  obtain ⟨HO, i, rfl, hi, HZ⟩ := hrel
  obtain ⟨k0, k1⟩ := HBox.out wr HO.out
  by_cases ci : i < n_x_packs
  ·have hrow := HR_x_packs.out wr HO.out
   have hrow0 := hrow
   rw [← N_x_packs.out] at hrow0
   obtain ⟨b, off, he, -, -⟩ := hrow0.at (by have := N_x_packs.out; omega)
   subst he
   obtain ⟨y, hx⟩ : ∃ y, x.packs[i]? = some y := ⟨_, List.getElem?_eq_getElem (by rw [N_x_packs.out]; omega)⟩
   obtain ⟨cs, hl, hr, hC⟩ := hrow.get hx
   clear hrow hrow0
   obtain ⟨v1, v2, v3, v4, v5, v6, rfl, -⟩ := hC
   have hcell := hr 0 _ rfl
   simp only [Nat.add_zero] at hcell
   have ewi : IntKind.i64.wrap ((i : Int) + 1) = (i : Int) + 1 := by rw [IntKind.wrap_i64]; omega
   have hbd := bytes_dec y.name s
   have HX := Lib.hid hx
   clear hx hr hl
   by_cases hy : y.name = s
   ·have hd : decide (y.name = s) = true := decide_eq_true hy
    have hri : r = i := by rw [← HRes.out]; exact idxG_hit HX.out hd HZ.out
    subst hri
    rw [hd] at hbd
    clear hd hy
    go_wp2_with fail
    go_ret
    exact ⟨rfl, HOB.out.same HO.out⟩
   ·have hd : decide (y.name = s) = false := decide_eq_false hy
    have HD := Lib.hid hd
    rw [hd] at hbd
    have HZ2 : Hid (∀ y ∈ x.packs.take (i + 1), decide (y.name = s) = false) := fun z hz => by
     rcases mem_take_snoc HX.out hz with h | rfl
     ·exact HZ.out z h
     ·exact HD.out
    clear hd hy
    go_wp2_with fail
    go_roundw
    case rel => exact ⟨HO, i + 1, by first | rfl | go_num, by omega, HZ2⟩
    case measure => simp [RowKit.intOf] <;> omega
  ·obtain rfl : n_x_packs = i := by omega
   have hri : r = -1 := by
    rw [← HRes.out]
    have := HZ.out
    rw [List.take_of_length_le (Nat.le_of_eq N_x_packs.out)] at this
    exact idxG_none this
   subst hri
   go_wp2_with fail
   go_ret
   exact ⟨rfl, HOB.out.same HO.out⟩
set_option maxRecDepth 100000 in
set_option maxHeartbeats 2000000 in
theorem Providers9_any {csx : List Value} {x : RecD} (hx : RecC B w csx x) (hlen : x.packs.length ≤ 1000000) (s : Str) :
  Calls Tryz.prog 25 #[.agg csx.toArray, .string s] w fun e w' => ∃ v, e = .returned v ∧ w'.ownsRow 0 3 1 v (x.provs s).length (natsV (x.provs s)) ∧ (∀ k, v.ownBlock = some k → w.heap.size ≤ k) ∧ Only (fun _ => False) w w' := by
 have HH_x := Lib.hid hx
 obtain ⟨u1, u2, rfl, r1, r2⟩ := hx
 obtain ⟨a_x_packs, c_x_packs, rfl, g_x_packs, h_x_packs⟩ := r1.shape
 obtain ⟨n_x_packs, e1⟩ : ∃ n, x.packs.length = n := ⟨_, rfl⟩
 have N_x_packs := Lib.hid e1
 obtain ⟨a_x_prefs, c_x_prefs, rfl, g_x_prefs, h_x_prefs⟩ := r2.shape
 obtain ⟨n_x_prefs, e2⟩ : ∃ n, x.prefs.length = n := ⟨_, rfl⟩
 have N_x_prefs := Lib.hid e2
 rw [e1, e2] at HH_x
 rw [e1] at r1 g_x_packs
 have RR_x_packs := Lib.hid r1
 rw [e2] at r2 g_x_prefs
 have RR_x_prefs := Lib.hid r2
 rw [e1, e2]
 clear e1 e2 r1 r2
 obtain ⟨W0, hW0⟩ : ∃ W0, W0 = (w.alloc (.cells #[.slice a_x_packs n_x_packs c_x_packs, .slice a_x_prefs n_x_prefs c_x_prefs] 25)) := ⟨_, rfl⟩
 have HOB : Hid (Only (fun _ => False) w W0) := by rw [hW0]; exact (Only.refl _ _).alloc _
 have HSz : Hid (W0.heap.size = w.heap.size + 1) := by rw [hW0]; simp [Hid]
 have HBox : Hid (∀ W, Only (fun _ => False) W0 W → W.cell? ⟨w.heap.size, 0, none⟩ = some (.slice a_x_packs n_x_packs c_x_packs) ∧ W.cell? ⟨w.heap.size, 1, none⟩ = some (.slice a_x_prefs n_x_prefs c_x_prefs)) := fun W ho => by
  have b0 : W0.heap[w.heap.size]? = some (.cells #[.slice a_x_packs n_x_packs c_x_packs, .slice a_x_prefs n_x_prefs c_x_prefs] 25) := by rw [hW0]; exact alloc_at rfl
  have d0 := only_block b0 ho (fun f => f)
  exact ⟨by rw [cell_block d0]; rfl, by rw [cell_block d0]; rfl⟩
 have HK_x : Hid (∀ W, Only (fun _ => False) W0 W → RecC B W [.slice a_x_packs n_x_packs c_x_packs, .slice a_x_prefs n_x_prefs c_x_prefs] x) := fun W ho => RecC.keep HH_x.out (Kp.of0 (HOB.out.same ho) : Kp B w W)
 have HR_x_packs : Hid (∀ W, Only (fun _ => False) W0 W → RowT 8 PackC B W (.slice a_x_packs n_x_packs c_x_packs) x.packs) := fun W ho => RR_x_packs.out.keep PackC.keep (Kp.of0 (HOB.out.same ho))
 clear RR_x_packs
 have HR_x_prefs : Hid (∀ W, Only (fun _ => False) W0 W → RowT 3 PrefC B W (.slice a_x_prefs n_x_prefs c_x_prefs) x.prefs) := fun W ho => RR_x_prefs.out.keep PrefC.keep (Kp.of0 (HOB.out.same ho))
 clear RR_x_prefs
 clear HH_x
 have HLen := Lib.hid hlen
 rw [N_x_packs.out] at hlen
 go_enter Tryz.func25, Tryz.ntmps25
 go_wp2_with fail
 rw [← hW0]
 clear hW0
 have HO1 : Hid (Only (fun _ => False) W0 (W0.alloc (.cells #[] 3))) := (Only.refl _ _).alloc _
 have HV1 : Hid ((W0.alloc (.cells #[] 3)).ownsRow 0 3 1 (.slice (some ⟨w.heap.size + 1, 0, none⟩) 0 0) (x.provTo s 0).length (natsV (x.provTo s 0))) := by rw [← HSz.out]; exact own_lit0 W0
 have HB1 : Hid (∀ k, (Value.slice (some ⟨w.heap.size + 1, 0, none⟩) 0 0).ownBlock = some k → W0.heap.size ≤ k) := fun k hk => by simp [Value.ownBlock] at hk; have := HSz.out; omega
 obtain ⟨k0, k1⟩ := HBox.out _ HO1.out
 go_wp2_with fail
 go_loopw [5, 11] (fun vo vi wr => Hid (Only (fun _ => False) W0 wr) ∧ ∃ i : Nat, vi = .int .i64 i ∧ i ≤ n_x_packs ∧ Hid (wr.ownsRow 0 3 1 vo (x.provTo s i).length (natsV (x.provTo s i))) ∧ Hid (∀ k, vo.ownBlock = some k → W0.heap.size ≤ k)) (fun _ v _ => n_x_packs - (RowKit.intOf v).toNat)
 case atStart => exact ⟨HO1, 0, rfl, Nat.zero_le _, HV1, HB1⟩
 case round =>
  clear HO1 HV1 HB1 k0 k1
  obtain ⟨HO, i, rfl, hi, HV, HB⟩ := hrel
  obtain ⟨k0, k1⟩ := HBox.out wr HO.out
  by_cases ci : i < n_x_packs
  ·have hrow := HR_x_packs.out wr HO.out
   have hrow0 := hrow
   rw [← N_x_packs.out] at hrow0
   obtain ⟨b, off, he, -, -⟩ := hrow0.at (by have := N_x_packs.out; omega)
   subst he
   obtain ⟨y, hx⟩ : ∃ y, x.packs[i]? = some y := ⟨_, List.getElem?_eq_getElem (by rw [N_x_packs.out]; omega)⟩
   obtain ⟨cs, hl, hr, hC⟩ := hrow.get hx
   clear hrow hrow0
   obtain ⟨o1, o2, o3, o4, o5, o6, c1, c2, c3, c4, c5, c6, rfl, -, -, -, -, b5, -, -, -⟩ := hC.cells
   have hcell := hr 4 _ rfl
   have ewi : IntKind.i64.wrap ((i : Int) + 1) = (i : Int) + 1 := by rw [IntKind.wrap_i64]; omega
   have HX := Lib.hid hx
   have HHas := Lib.hid (Has9_any b5 s)
   have hpk : x.pack i = y := by unfold RecD.pack; rw [List.getD_eq_getElem?_getD, hx]; rfl
   have hsu := x.provTo_succ s i
   rw [hpk] at hsu
   have HSu := Lib.hid hsu
   have hpl : (x.provTo s i).length ≤ i := by
    unfold RecD.provTo
    have := List.length_filter_le (fun i => hasS (x.pack i).provides s) (List.range i)
    simpa using this
   obtain ⟨bb, hbb⟩ : ∃ b, hasS y.provides s = b := ⟨_, rfl⟩
   rw [hbb] at HSu HHas
   clear hx hr hl hC b5 hsu hpk hbb
   go_wp2_with fail
   refine HHas.out.mono ?_
   rintro e w1 ⟨rfl, O1⟩
   have HO1 := Lib.hid (HO.out.same O1)
   have HV1 := Lib.hid (own_only HV.out O1 (fun _ _ f => f))
   clear O1 HHas
   cases bb with
   | false =>
    have HV2 : Hid (w1.ownsRow 0 3 1 u5 (x.provTo s (i + 1)).length (natsV (x.provTo s (i + 1)))) := by
     have h1 := HSu.out
     simp at h1
     rw [h1]; exact HV1.out
    go_wp2_with fail
    go_roundw
    case rel => exact ⟨HO1, i + 1, by first | rfl | go_num, by omega, HV2, HB⟩
    case measure => simp [RowKit.intOf] <;> omega
   | true =>
    obtain ⟨au, cu, rfl, -, -⟩ := own_slice HV1.out
    go_wp2_with (at_builtin; go_must (refine wpA1 (u := .int .i64 (i : Int)) slInt rfl (.tmp 22) (.tmp 24) rfl rfl rfl (cell_new0 _ _ _) rfl (own_only HV1.out ((Only.refl (fun _ => False) _).alloc _) (fun _ _ f => f)) (by omega) (by decide) ?_))
    intro v' w2 r1 r2 r3
    have HV2 : Hid (w2.ownsRow 0 3 1 v' (x.provTo s (i + 1)).length (natsV (x.provTo s (i + 1)))) := by
     have h1 := HSu.out
     simp at h1
     rw [h1]
     simpa [natsV, Hid] using r1
    have HO2 := Lib.hid (((HO1.out.alloc _).trans r2 fun k hk => .inr (HB.out k hk)))
    have HB2 : Hid (∀ k, v'.ownBlock = some k → W0.heap.size ≤ k) := by
     intro k hk
     obtain ⟨g, cap', rfl, -, -, h | h⟩ := r3
     ·simp [Value.ownBlock] at hk; subst hk; exact HB.out _ h
     ·simp [Value.ownBlock] at hk; subst hk
      have := HO1.out.size
      simp at h; omega
    obtain ⟨g, cap', rfl, -, -, -⟩ := r3
    clear r1 r2
    go_wp2_with fail
    go_roundw
    case rel => exact ⟨HO2, i + 1, by first | rfl | go_num, by omega, HV2, HB2⟩
    case measure => simp [RowKit.intOf] <;> omega
  ·obtain rfl : n_x_packs = i := by omega
   go_wp2_with fail
   go_ret
   refine ⟨_, rfl, ?_, fun k hk => by have := HB.out k hk; have := HOB.out.size; omega, HOB.out.same HO.out⟩
   have := HV.out
   unfold RecD.provs
   rw [N_x_packs.out]
   exact this
end
end Go.Proofs.YtmlfchjompfmaaaGreatDoor

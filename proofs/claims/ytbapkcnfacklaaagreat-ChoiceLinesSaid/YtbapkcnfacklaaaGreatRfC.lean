/- What may be needed, by the document: Closure. Printed by gen_rfc.py. -/
import Derived.Test.YtbapkcnfacklaaaGreatRfB
set_option linter.unusedVariables false
namespace Go.Proofs.YtbapkcnfacklaaaGreat
open Go.RowKit
section
variable {w w' : World} {B : Nat}
theorem InB.set {g m : Nat} {f : List Bool} (h : InB w g m f) (i : Nat) : InB (w.setCell ⟨g, i, none⟩ (.bool true)) g m (f.set i true) := by
 refine ⟨by rw [List.length_set]; exact h.1, ?_⟩
 have := (h.2.stored i (.bool true)).1
 rw [List.map_set]
 exact this
set_option maxRecDepth 100000 in
set_option maxHeartbeats 4000000 in
theorem Closure10_any {csx : List Value} {x : RecD} (hx : RecC B w csx x) {csq : List Value} {q : ReqD} (hq : ReqC B w csq q) (hlen : x.packs.length ≤ 1000000) :
  Calls Tryz.prog 11 #[.agg csx.toArray, .agg csq.toArray] w fun e w' => ∃ v, e = .returned v ∧ w'.ownsRow 0 3 1 v (x.closure q.names).length (natsV (x.closure q.names)) ∧ (∀ k, v.ownBlock = some k → w.heap.size ≤ k) ∧ Only (fun _ => False) w w' := by
 have HH_x := Lib.hid hx
 obtain ⟨u1, u2, rfl, r1, r2⟩ := hx
 obtain ⟨a_x_packs, c_x_packs, rfl, g_x_packs, h_x_packs⟩ := r1.shape
 obtain ⟨n_x_packs, e1⟩ : ∃ n, x.packs.length = n := ⟨_, rfl⟩
 have N_x_packs := Lib.hid e1
 obtain ⟨a_x_prefs, c_x_prefs, rfl, g_x_prefs, h_x_prefs⟩ := r2.shape
 obtain ⟨n_x_prefs, e2⟩ : ∃ n, x.prefs.length = n := ⟨_, rfl⟩
 have N_x_prefs := Lib.hid e2
 rw [e1, e2] at HH_x
 rw [e1] at r1 g_x_packs
 have RR_x_packs := Lib.hid r1
 rw [e2] at r2 g_x_prefs
 have RR_x_prefs := Lib.hid r2
 rw [e1, e2]
 clear e1 e2 r1 r2
 have HH_q := Lib.hid hq
 obtain ⟨u1, rfl, r1⟩ := hq
 obtain ⟨a_q_roots, c_q_roots, rfl, g_q_roots, h_q_roots⟩ := r1.shape
 obtain ⟨n_q_roots, e1⟩ : ∃ n, q.roots.length = n := ⟨_, rfl⟩
 have N_q_roots := Lib.hid e1
 rw [e1] at HH_q
 rw [e1] at r1 g_q_roots
 have RR_q_roots := Lib.hid r1
 rw [e1]
 clear e1 r1
 obtain ⟨W0, hW0⟩ : ∃ W0, W0 = ((w.alloc (.cells #[.slice a_x_packs n_x_packs c_x_packs, .slice a_x_prefs n_x_prefs c_x_prefs] 25)).alloc (.cells #[.slice a_q_roots n_q_roots c_q_roots] 28)) := ⟨_, rfl⟩
 have HOB : Hid (Only (fun _ => False) w W0) := by rw [hW0]; exact ((Only.refl _ _).alloc _).alloc _
 have HSz : Hid (W0.heap.size = w.heap.size + 2) := by rw [hW0]; simp [Hid]
 have HBox : Hid (∀ W, Only (fun _ => False) W0 W → W.cell? ⟨w.heap.size, 0, none⟩ = some (.slice a_x_packs n_x_packs c_x_packs) ∧ W.cell? ⟨w.heap.size, 1, none⟩ = some (.slice a_x_prefs n_x_prefs c_x_prefs) ∧ W.cell? ⟨w.heap.size + 1, 0, none⟩ = some (.slice a_q_roots n_q_roots c_q_roots)) := fun W ho => by
  have b0 : W0.heap[w.heap.size]? = some (.cells #[.slice a_x_packs n_x_packs c_x_packs, .slice a_x_prefs n_x_prefs c_x_prefs] 25) := by rw [hW0]; exact alloc_block (alloc_at rfl) _
  have d0 := only_block b0 ho (fun f => f)
  have b1 : W0.heap[w.heap.size + 1]? = some (.cells #[.slice a_q_roots n_q_roots c_q_roots] 28) := by rw [hW0]; exact alloc_at (by simp)
  have d1 := only_block b1 ho (fun f => f)
  exact ⟨by rw [cell_block d0]; rfl, by rw [cell_block d0]; rfl, by rw [cell_block d1]; rfl⟩
 have HK_x : Hid (∀ W, Only (fun _ => False) W0 W → RecC B W [.slice a_x_packs n_x_packs c_x_packs, .slice a_x_prefs n_x_prefs c_x_prefs] x) := fun W ho => RecC.keep HH_x.out (Kp.of0 (HOB.out.same ho) : Kp B w W)
 have HR_x_packs : Hid (∀ W, Only (fun _ => False) W0 W → RowT 8 PackC B W (.slice a_x_packs n_x_packs c_x_packs) x.packs) := fun W ho => RR_x_packs.out.keep PackC.keep (Kp.of0 (HOB.out.same ho))
 clear RR_x_packs
 have HR_x_prefs : Hid (∀ W, Only (fun _ => False) W0 W → RowT 3 PrefC B W (.slice a_x_prefs n_x_prefs c_x_prefs) x.prefs) := fun W ho => RR_x_prefs.out.keep PrefC.keep (Kp.of0 (HOB.out.same ho))
 clear RR_x_prefs
 clear HH_x
 have HK_q : Hid (∀ W, Only (fun _ => False) W0 W → ReqC B W [.slice a_q_roots n_q_roots c_q_roots] q) := fun W ho => ReqC.keep HH_q.out (Kp.of0 (HOB.out.same ho) : Kp B w W)
 have HR_q_roots : Hid (∀ W, Only (fun _ => False) W0 W → RowT 4 RootC B W (.slice a_q_roots n_q_roots c_q_roots) q.roots) := fun W ho => RR_q_roots.out.keep RootC.keep (Kp.of0 (HOB.out.same ho))
 clear RR_q_roots
 clear HH_q
 rw [N_x_packs.out] at hlen
 go_enter Tryz.func11, Tryz.ntmps11
 go_wp2_with (at_make; go_must (refine wpM (bytes := 1) (z := .bool false) Tryz.underlying58 (by kernel_rfl) rfl rfl _ _ rfl n_x_packs rfl rfl rfl rfl (by omega) (by decide) ?_))
 rw [← hW0]
 clear hW0
 intro w7 t1 t2 t3
 obtain ⟨g, hg⟩ : ∃ g, w.heap.size + 1 + 1 = g := ⟨_, rfl⟩
 rw [hg] at t1 ⊢
 have HG : Hid (W0.heap.size ≤ g) := by rw [HSz.out, Hid]; omega
 have HBst : Hid (InB w7 g n_x_packs (roundsD x q.names 0)) := ⟨by simp [roundsD, N_x_packs.out], by rw [roundsD, N_x_packs.out, List.map_replicate]; exact t1⟩
 have HOC := Lib.hid t2
 clear t1 t2 t3 hg
 go_wp2_with fail
 go_loopw [6] (fun vn wrn => Hid (Only (fun _ => False) W0 wrn) ∧ ∃ n : Nat, vn = .int .i64 n ∧ n ≤ (n_x_packs + 1) ∧ Hid (InB wrn g n_x_packs (roundsD x q.names n))) (fun v _ => (n_x_packs + 1) - (RowKit.intOf v).toNat)
 case atStart => exact ⟨HOC, 0, rfl, Nat.zero_le _, HBst⟩
 case round =>
  obtain ⟨wrn, rfl⟩ : ∃ W, W = wr := ⟨_, rfl⟩
  clear HOC HBst
  obtain ⟨HOn, n, rfl, hn, HBn⟩ := hrel
  obtain ⟨k0, k1, k2⟩ := HBox.out wrn HOn.out
  by_cases cn : n < (n_x_packs + 1)
  ·have ewi : IntKind.i64.wrap ((n : Int) + 1) = (n : Int) + 1 := by rw [IntKind.wrap_i64]; omega
   have hle : (n : Int) ≤ (n_x_packs : Int) := by omega
   obtain ⟨F, hF⟩ : ∃ f, roundsD x q.names n = f := ⟨_, rfl⟩
   have HFF := Lib.hid hF
   have HB0 : Hid (InB wrn g n_x_packs (roundTo x q.names F 0)) := by rw [← hF]; exact HBn.out
   have HOC := HOn
   clear hF
   go_wp2_with fail
   go_loopw [24] (fun vi wri => Hid (Only (fun _ => False) W0 wri) ∧ ∃ i : Nat, vi = .int .i64 i ∧ i ≤ n_x_packs ∧ Hid (InB wri g n_x_packs (roundTo x q.names F i))) (fun v _ => n_x_packs - (RowKit.intOf v).toNat)
   case atStart => exact ⟨HOC, 0, rfl, Nat.zero_le _, HB0⟩
   case round =>
    obtain ⟨wri, rfl⟩ : ∃ W, W = wr := ⟨_, rfl⟩
    clear HOC HB0
    obtain ⟨HOi, i, rfl, hi, HBi⟩ := hrel
    clear k0 k1 k2
    obtain ⟨k0, k1, k2⟩ := HBox.out wri HOi.out
    by_cases ci : i < n_x_packs
    ·have ewi : IntKind.i64.wrap ((i : Int) + 1) = (i : Int) + 1 := by rw [IntKind.wrap_i64]; omega
     obtain ⟨fi, hfi⟩ : ∃ f, roundTo x q.names F i = f := ⟨_, rfl⟩
     rw [hfi] at HBi
     have HFi := Lib.hid hfi
     clear hfi
     have gin := HBi.out.cell ci
     obtain ⟨b0, hb0⟩ : ∃ b, fi.getD i false = b := ⟨_, rfl⟩
     rw [hb0] at gin
     have HB0 := Lib.hid hb0
     clear hb0
     obtain ⟨ab, hab⟩ : ∃ b, askedD x q.names fi i = b := ⟨_, rfl⟩
     have HAs : Hid (Calls Tryz.prog 38 #[.agg #[.slice a_x_packs n_x_packs c_x_packs, .slice a_x_prefs n_x_prefs c_x_prefs], .agg #[.slice a_q_roots n_q_roots c_q_roots], .slice (some ⟨g, 0, none⟩) n_x_packs n_x_packs, .int .i64 (i : Int)] wri fun e w' => e = .returned (.bool ab) ∧ Only (fun _ => False) wri w') := by
      have := asked_any (HK_x.out wri HOi.out) (HK_q.out wri HOi.out) (by rw [N_x_packs.out]; exact hlen) (by rw [N_x_packs.out]; exact HBi.out) i
      rw [hab, N_x_packs.out] at this
      exact this
     have HAb := Lib.hid hab
     clear hab
     have HNx : Hid (roundTo x q.names F (i + 1) = if (!b0 && ab) = true then fi.set i true else fi) := by
      rw [roundTo_succ, HFi.out, stepD, HB0.out, HAb.out]
      exact rfl
     cases b0 with
     | true =>
      have HB2 : Hid (InB wri g n_x_packs (roundTo x q.names F (i + 1))) := by
       rw [HNx.out]
       simp only [Bool.not_true, Bool.false_and, Bool.false_eq_true, if_false]
       exact HBi.out
      go_wp2_with fail
      go_roundw
      case rel => exact ⟨HOi, i + 1, by first | rfl | go_num, by omega, HB2⟩
      case measure => simp [RowKit.intOf] <;> omega
     | false =>
      go_wp2_with fail
      refine HAs.out.mono ?_
      rintro e w2 ⟨rfl, O2⟩
      have HO2 := Lib.hid (HOi.out.same O2)
      have HB1 := Lib.hid (HBi.out.only0 O2)
      clear O2 HAs gin k0 k1 k2
      obtain ⟨k0, k1, k2⟩ := HBox.out w2 HO2.out
      have gin := HB1.out.cell ci
      cases ab with
      | false =>
       have HB2 : Hid (InB w2 g n_x_packs (roundTo x q.names F (i + 1))) := by
        rw [HNx.out]
        simp only [Bool.and_false, Bool.false_eq_true, if_false]
        exact HB1.out
       go_wp2_with fail
       go_roundw
       case rel => exact ⟨HO2, i + 1, by first | rfl | go_num, by omega, HB2⟩
       case measure => simp [RowKit.intOf] <;> omega
      | true =>
       have hfr := HB1.out.2.frozenAt i
       have HB2 : Hid (InB (w2.setCell ⟨g, i, none⟩ (.bool true)) g n_x_packs (roundTo x q.names F (i + 1))) := by
        rw [HNx.out]
        simp only [Bool.not_false, Bool.and_true, if_true]
        exact HB1.out.set i
       have HO3 : Hid (Only (fun _ => False) W0 (w2.setCell ⟨g, i, none⟩ (.bool true))) := HO2.out.setCell (p := ⟨g, i, none⟩) (.inr HG.out) _
       go_wp2_with fail
       go_roundw
       case rel => exact ⟨HO3, i + 1, by first | rfl | go_num, by omega, HB2⟩
       case measure => simp [RowKit.intOf] <;> omega
    ·obtain rfl : n_x_packs = i := by omega
     have HB2 : Hid (InB wri g n_x_packs (roundsD x q.names (n + 1))) := by
      have := HBi.out
      rw [← HFF.out, ← N_x_packs.out] at this
      rw [← N_x_packs.out]
      exact this
     have HO2 := HOi
     go_wp2_with fail
     go_roundw
     case rel => exact ⟨HO2, n + 1, by first | rfl | go_num, by omega, HB2⟩
     case measure => simp [RowKit.intOf] <;> omega
  ·obtain rfl : (n_x_packs + 1) = n := by omega
   obtain ⟨WB, hWB⟩ : ∃ W, W = wrn := ⟨_, rfl⟩
   obtain ⟨F, hF⟩ : ∃ f, roundsD x q.names (n_x_packs + 1) = f := ⟨_, rfl⟩
   rw [hF] at HBn
   have HFF := Lib.hid hF
   clear hF
   have HOW : Hid (Only (fun _ => False) W0 WB) := by rw [hWB]; exact HOn.out
   have HIn : Hid (∀ W, Only (fun _ => False) WB W → InB W g n_x_packs F) := fun W hW => by
    rw [hWB] at hW
    exact HBn.out.only0 hW
   have HO1 : Hid (Only (fun _ => False) WB (WB.alloc (.cells #[] 3))) := (Only.refl _ _).alloc _
   have HV1 : Hid ((WB.alloc (.cells #[] 3)).ownsRow 0 3 1 (.slice (some ⟨WB.heap.size, 0, none⟩) 0 0) (inTo F 0).length (natsV (inTo F 0))) := own_lit0 WB
   have HB1 : Hid (∀ k, (Value.slice (some ⟨WB.heap.size, 0, none⟩) 0 0).ownBlock = some k → WB.heap.size ≤ k) := fun k hk => by simp [Value.ownBlock] at hk; omega
   have hnl : ¬ ((n_x_packs : Int) + 1 ≤ n_x_packs) := by omega
   rw [← hWB]
   rw [← hWB] at k0 k1 k2
   clear hWB HBn HOn
   go_wp2_with fail
   clear k0 k1 k2
   go_loopw [8, 46] (fun vo vj wrj => Hid (Only (fun _ => False) WB wrj) ∧ ∃ j : Nat, vj = .int .i64 j ∧ j ≤ n_x_packs ∧ Hid (wrj.ownsRow 0 3 1 vo (inTo F j).length (natsV (inTo F j))) ∧ Hid (∀ k, vo.ownBlock = some k → WB.heap.size ≤ k)) (fun _ v _ => n_x_packs - (RowKit.intOf v).toNat)
   case atStart => exact ⟨HO1, 0, rfl, Nat.zero_le _, HV1, HB1⟩
   case round =>
    obtain ⟨wrj, rfl⟩ : ∃ W, W = wr := ⟨_, rfl⟩
    clear HO1 HV1 HB1
    obtain ⟨HOj, j, rfl, hj, HV, HBj⟩ := hrel
    obtain ⟨au, cu, rfl, -, -⟩ := own_slice HV.out
    by_cases cj : j < n_x_packs
    ·have hpl : (inTo F j).length ≤ j := by
      unfold inTo
      have := List.length_filter_le (fun i => F.getD i false) (List.range j)
      simpa using this
     have ewi : IntKind.i64.wrap ((j : Int) + 1) = (j : Int) + 1 := by rw [IntKind.wrap_i64]; omega
     have gin := (HIn.out wrj HOj.out).cell cj
     obtain ⟨b0, hb0⟩ : ∃ b, F.getD j false = b := ⟨_, rfl⟩
     rw [hb0] at gin
     have HB0 := Lib.hid hb0
     clear hb0
     cases b0 with
     | false =>
      have HV2 : Hid (wrj.ownsRow 0 3 1 (.slice au (inTo F j).length cu) (inTo F (j + 1)).length (natsV (inTo F (j + 1)))) := by
       rw [inTo_succ, HB0.out, if_neg (by simp)]
       exact HV.out
      go_wp2_with fail
      go_roundw
      case rel => exact ⟨HOj, j + 1, by first | rfl | go_num, by omega, HV2, HBj⟩
      case measure => simp [RowKit.intOf] <;> omega
     | true =>
      go_wp2_with (at_builtin; go_must (refine wpA1 (u := .int .i64 (j : Int)) slInt rfl (.tmp 53) (.tmp 55) rfl rfl rfl (cell_new0 _ _ _) rfl (own_only HV.out ((Only.refl (fun _ => False) _).alloc _) (fun _ _ f => f)) (by omega) (by decide) ?_))
      intro v' w2 r1 r2 r3
      have HV2 : Hid (w2.ownsRow 0 3 1 v' (inTo F (j + 1)).length (natsV (inTo F (j + 1)))) := by
       rw [inTo_succ, HB0.out, if_pos rfl]
       simpa [natsV, Hid] using r1
      have HO2 := Lib.hid (((HOj.out.alloc _).trans r2 fun k hk => .inr (HBj.out k hk)))
      have HB2 : Hid (∀ k, v'.ownBlock = some k → WB.heap.size ≤ k) := by
       intro k hk
       obtain ⟨g, cap', rfl, -, -, h | h⟩ := r3
       ·simp [Value.ownBlock] at hk; subst hk; exact HBj.out _ h
       ·simp [Value.ownBlock] at hk; subst hk
        have := HOj.out.size
        simp at h; omega
      obtain ⟨g2, cap', rfl, -, -, -⟩ := r3
      clear r1 r2
      go_wp2_with fail
      go_roundw
      case rel => exact ⟨HO2, j + 1, by first | rfl | go_num, by omega, HV2, HB2⟩
      case measure => simp [RowKit.intOf] <;> omega
    ·obtain rfl : n_x_packs = j := by omega
     go_wp2_with fail
     go_ret
     refine ⟨_, rfl, ?_, fun k hk => by have := HBj.out k hk; have := HOB.out.size; have := HOW.out.size; omega, HOB.out.same (HOW.out.same HOj.out)⟩
     have := HV.out
     rw [← HFF.out, ← N_x_packs.out, rounds_closure] at this
     rw [← HFF.out, ← N_x_packs.out, rounds_closure]
     exact this
end
end Go.Proofs.YtbapkcnfacklaaaGreat

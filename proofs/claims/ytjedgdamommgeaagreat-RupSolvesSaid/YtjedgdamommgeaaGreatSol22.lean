/- The walk of (*solve.Solver).Proof. (Printed by gen_sol22.py.) -/
import Derived.Test.YtjedgdamommgeaaGreatSolE
import Derived.Test.YtjedgdamommgeaaGreatRupC
import Derived.Test.YtjedgdamommgeaaGreatRegs
set_option linter.unusedVariables false
namespace Go.Proofs.YtjedgdamommgeaaGreat
open Go.RowKit
open Tr
theorem stepCells_get : ∀ (P : List (Bool × List Int)) (us : List Value), us.length = P.length → ∀ i, i < P.length → (stepCells us P)[i * 2]? = some (.bool (P.getD i (false, [])).1) ∧ (stepCells us P)[i * 2 + 1]? = some (us.getD i nilS)
 | [], _, _, i, hi => absurd hi (Nat.not_lt_zero _)
 | p :: P, [], h, _, _ => by simp at h
 | p :: P, u :: us, h, 0, _ => by simp [stepCells]
 | p :: P, u :: us, h, i + 1, hi => by
  have ih := stepCells_get P us (by simpa using h) i (by simpa using hi)
  have e : stepCells (u :: us) (p :: P) = [.bool p.1, u] ++ stepCells us P := by simp [stepCells]
  have h1 : (i + 1) * 2 - ([Value.bool p.1, u] : List Value).length = i * 2 := by simp; omega
  have h2 : (i + 1) * 2 + 1 - ([Value.bool p.1, u] : List Value).length = i * 2 + 1 := by simp; omega
  rw [e, List.getElem?_append_right (by simp; omega), List.getElem?_append_right (by simp; omega), h1, h2]
  simpa using ih
structure ProAt (w : World) (P : List (Bool × List Int)) (j : Nat) (vo : Value) (us : List Value) (g : Tag) (wr : World) : Prop where
 row : RowZ wr g (1, 0) 76 2 vo j (stepCells us (P.take j))
 ul : us.length = j
 el : ∀ i, i < j → Ints wr (us.getD i nilS) (P.getD i (false, [])).2 ∧ NotMine g (us.getD i nilS) (P.getD i (false, [])).2
 fr : Fresh wr g
 new : ∀ k, (g k).1 ≠ 0 → w.heap.size ≤ k
 on : Only (fun _ => False) w wr
section
variable {w wr w5 : World} {P : List (Bool × List Int)} {j : Nat} {vo : Value} {us : List Value} {g : Tag}
theorem ProAt.only0 (h : ProAt w P j vo us g wr) (ho : Only (fun _ => False) wr w5) : ProAt w P j vo us g w5 :=
 ⟨h.row.only ho (fun _ _ f => f), h.ul, fun i hi => ⟨(h.el i hi).1.only0 ho, (h.el i hi).2⟩, h.fr.more ho.size, h.new, h.on.same ho⟩
theorem ProAt.step (h : ProAt w P j vo us g wr) (hj : j < P.length) {x : Bool} {c : List Int} (hp : P.getD j (false, []) = (x, c)) {u v' : Value} (hu : Ints wr u c) (hn : NotMine g u c) {s : Nat} (hs : wr.heap.size = s)
  (r5 : RowZ w5 (Tag.put g s w5.heap.size (1, 0)) (1, 0) 76 2 v' (j + 1) (stepCells us (P.take j) ++ [.bool x, u])) (o5 : Only (fun k => g k = (1, 0)) wr w5) : ∃ g', ProAt w P (j + 1) v' (us ++ [u]) g' w5 := by
 subst hs
 have ag := Agree.put (w := wr) g (hi := w5.heap.size) (1, 0) (Nat.le_refl wr.heap.size)
 have htk : P.take (j + 1) = P.take j ++ [(x, c)] := by
  rw [List.take_succ_eq_append_getElem hj]
  rw [List.getD_eq_getElem?_getD, List.getElem?_eq_getElem hj] at hp
  rw [show P[j] = (x, c) from hp]
 refine ⟨Tag.put g wr.heap.size w5.heap.size (1, 0), ⟨?_, by simp [h.ul], fun i hi => ?_, h.fr.put _ o5.size, fun k hk => ?_, h.on.trans o5 fun k hk => .inr (h.new k (by rw [hk]; decide))⟩⟩
 ·rw [htk, stepCells_snoc _ _ (by rw [h.ul, List.length_take]; omega)]; exact r5
 ·by_cases c1 : i < j
  ·rw [getD_app_l _ _ _ (by rw [h.ul]; exact c1)]
   obtain ⟨e1, e2⟩ := h.el i c1
   exact ⟨e1.only' o5 (fun hp k hk hc => by have := e2 hp k hk; rw [hc] at this; cases this), e2.agree e1 ag⟩
  ·obtain rfl : i = j := by omega
   rw [getD_app_r _ _ _ (by rw [h.ul]; exact Nat.le_refl _), h.ul, Nat.sub_self, hp]
   exact ⟨hu.only' o5 (fun hp k hk hc => by have := hn hp k hk; rw [hc] at this; cases this), hn.agree hu ag⟩
 ·by_cases c1 : k < wr.heap.size
  ·rw [ag k c1] at hk; exact h.new k hk
  ·exact Nat.le_trans h.on.size (by omega)
theorem ProAt.steps (h : ProAt w P P.length vo us g wr) : StepsAt wr vo P := by
 have hr := h.row
 rw [List.take_of_length_le (Nat.le_refl _)] at hr
 refine ⟨?_, fun ao len cap hv hp => ?_⟩
 ·obtain ⟨ao, cap, h1, h2, h3⟩ := own_slice hr.own
  exact ⟨ao, cap, h1, h2, by unfold maxLen at h3; omega⟩
 ·obtain ⟨b, cap2, h1, h2, h3⟩ := own_some hr.own hp
  rw [h1] at hv hr
  simp only [Value.slice.injEq] at hv
  obtain ⟨rfl, rfl, rfl⟩ := hv
  refine ⟨b, 0, fun i => us.getD i nilS, rfl, own_lt hr.own rfl, fun i hi => ?_⟩
  obtain ⟨g1, g2⟩ := stepCells_get P us h.ul i hi
  refine ⟨?_, ?_, (h.el i hi).1⟩
  ·rw [Nat.zero_add]; exact (hr.own.cellAt (i * 2) (by omega)).trans g1
  ·rw [Nat.zero_add]; exact (hr.own.cellAt (i * 2 + 1) (by omega)).trans g2
end
section
variable {w : World} {G : Tag} {b : Nat} {V : SvV} {S : Sv.St}
set_option maxRecDepth 100000 in
set_option maxHeartbeats 6400000 in
theorem solve_Proof_any (H : SvAt w G b V S) (hlen : S.proof.length ≤ 1000000) (hcl : ∀ p ∈ S.proof, p.2.length ≤ 17592186043904) :
  Calls Tryz.prog 16 #[.pointer (some ⟨b, 0, none⟩)] w fun e w' => ∃ v, e = .returned v ∧ StepsAt w' v S.proof ∧ Only (fun _ => False) w w' := by
 have q8 := H.f8
 obtain ⟨ap, cp, hvp, -, -⟩ := own_slice H.proof.own
 rw [hvp] at q8
 have hel : ∀ j, j < S.proof.length → ∀ wr, Only (fun _ => False) w wr → ∃ bp, ap = some ⟨bp, 0, none⟩ ∧ wr.cell? ⟨bp, j * 2, none⟩ = some (.bool (S.proof.getD j (false, [])).1) ∧ wr.cell? ⟨bp, j * 2 + 1, none⟩ = some (V.us.getD j nilS) ∧ Ints wr (V.us.getD j nilS) (S.proof.getD j (false, [])).2 := by
  intro j hj wr ho
  have hr := (H.only0 ho).proof
  obtain ⟨bp, c2, h1, -, -⟩ := own_some hr.own (by omega)
  have h2 : Value.slice ap S.proof.length cp = .slice (some ⟨bp, 0, none⟩) S.proof.length c2 := hvp.symm.trans h1
  simp only [Value.slice.injEq] at h2
  rw [h1] at hr
  obtain ⟨g1, g2⟩ := stepCells_get S.proof V.us H.ul j hj
  exact ⟨bp, h2.1, (hr.own.cellAt (j * 2) (by omega)).trans g1, (hr.own.cellAt (j * 2 + 1) (by omega)).trans g2, (H.only0 ho).steps j hj |>.1⟩
 obtain ⟨P, hP⟩ : ∃ P, S.proof = P := ⟨_, rfl⟩
 rw [hP] at q8 hel hlen hcl ⊢
 have hst : ProAt w P 0 nilS [] (fun _ => (0, 0)) w := ⟨by simp only [List.take_zero]; exact RowZ_nil _ _ _ _ _, rfl, fun i hi => absurd hi (Nat.not_lt_zero _), fun _ _ => rfl, fun k hk => absurd rfl hk, Only.refl _ _⟩
 have HSt := Lib.hid hst
 have HEl := Lib.hid hel
 have HCl := Lib.hid hcl
 clear H hvp hel hP hst hcl
 go_enter Tryz.func16, Tryz.ntmps16
 go_wp2_with fail
 go_loopw [3, 13] (fun v3 v wr => ∃ (j : Nat) (us : List Value) (g : Tag) (ao : Option Addr) (co : Nat), v = .int .i64 j ∧ v3 = .slice ao j co ∧ j ≤ P.length ∧ ProAt w P j v3 us g wr) (fun v3 v _ => P.length - (intOf v).toNat)
 case atStart => exact ⟨0, [], _, none, 0, rfl, rfl, Nat.zero_le _, HSt.out⟩
 case round =>
  clear HSt
  obtain ⟨j, us, g, ao, co, rfl, rfl, hj, hA⟩ := hrel
  have HA := Lib.hid hA
  by_cases cj : j < P.length
  ·obtain ⟨bp, rfl, c0, c1, hI⟩ := HEl.out j cj wr hA.on
   have hcb := HCl.out _ (getD_mem' (false, []) cj)
   obtain ⟨p, hp⟩ : ∃ p, P.getD j (false, []) = p := ⟨_, rfl⟩
   rw [hp] at c0 hI hcb
   obtain ⟨x, c⟩ := p
   obtain ⟨u, hu⟩ : ∃ u, V.us.getD j nilS = u := ⟨_, rfl⟩
   rw [hu] at c1 hI
   obtain ⟨au, cu, rfl, -, -⟩ := hI.shape
   simp only at c0 hcb
   obtain ⟨B, hB⟩ : ∃ B, wr.heap.size = B := ⟨_, rfl⟩
   obtain ⟨wA, hwA⟩ : ∃ wA, wr.alloc (.cells #[.bool false, nilS] 76) = wA := ⟨_, rfl⟩
   have hbA : wA.heap[B]? = some (.cells #[.bool false, nilS] 76 (0, 0)) := by rw [← hwA, ← hB]; exact heap_alloc_new _ _
   obtain ⟨wB, hwB⟩ : ∃ wB, wA.setRow B #[.bool x, .slice au c.length cu] = wB := ⟨_, rfl⟩
   have hbB : wB.heap[B]? = some (.cells #[.bool x, .slice au c.length cu] 76 (0, 0)) := by rw [← hwB]; exact setRow_heap _ _ _ _ _ _ hbA
   have oB : Only (fun _ => False) wr wB := by rw [← hwB, ← hwA]; exact ((Only.refl _ _).alloc _).trans (only_setRow _ _ _) (fun k hk => .inr (by omega))
   have hAB := hA.only0 oB
   have hIB := hI.only0 oB
   have hS : ∀ W, Only (fun _ => False) wB W → W.cell? ⟨B, 0, none⟩ = some (.bool x) ∧ W.cell? ⟨B, 1, none⟩ = some (.slice au c.length cu) := fun W hW => by
    have hb := only_block hbB hW (fun f => f)
    exact ⟨by rw [cell_block hb]; rfl, by rw [cell_block hb]; rfl⟩
   have hcl2 : ∀ W, Only (fun _ => False) wB W → _ := fun W hW => Clone_anyR (hIB.only0 hW) hcb
   have HS := Lib.hid hS
   have HGB := Lib.hid (show (g B).1 = 0 from hA.fr B (by omega))
   have HClone := Lib.hid hcl2
   have HAB := Lib.hid hAB
   have HBA := Lib.hid hbA
   have HP := Lib.hid hp
   have HRng := Lib.hid hI.range
   have hS0 := hS wB.drew ((Only.refl _ _).drew)
   have ewj : IntKind.i64.wrap ((j : Int) + 1) = ((j + 1 : Nat) : Int) := by rw [IntWalk.i64_in _ (by omega)]; rfl
   clear hA hI hp hu hbA hbB hAB hIB hS hcl2 HA
   go_wp2_with ((refine wpList_store_row rfl 76 (.tmp 5) (.tmp 16) rfl B #[.bool x, .slice au c.length cu] rfl rfl 76 #[.bool false, nilS] HBA.out (by kernel_rfl) rfl (by first | kernel_rfl | rfl | simp [Value.oneCell']) ?_); rw [hwB])
   refine wp_region_G (n := 10) (E := fun _ => false) (S := fun w' => w'.cell? ⟨B, 0, none⟩ = some (.bool x) ∧ w'.cell? ⟨B, 1, none⟩ = some (.slice au c.length cu)) (by kernel_rfl) rfl hS0 (fun hHeld => ?_)
   refine tqW (i := 0) (v := ?_) rfl (.inr (by assumption)) ?_ ?_
   rotate_left
   ·(intro w; go_simp <;> (try with_reducible rfl))
   try simp only [Act.put, zq1, zq3, zq4, zq5, zq6]
   refine tqW (i := 1) (v := ?_) rfl (.inr (by assumption)) ?_ ?_
   rotate_left
   ·(intro w; go_simp <;> (try with_reducible rfl))
   try simp only [Act.put, zq1, zq2, zq3, zq4, zq5, zq6]
   refine tqK (i := 2) (v := ?_) rfl ?_ ?_
   rotate_left
   ·(intro w hSw; (try dsimp only at hSw); go_simp <;> (try with_reducible rfl))
   try simp only [Act.put, zq1, zq2, zq3, zq4, zq5, zq6]
   refine tqW (i := 3) (v := ?_) rfl (.inr (by assumption)) ?_ ?_
   rotate_left
   ·(intro w; go_simp <;> (try with_reducible rfl))
   try simp only [Act.put, zq1, zq2, zq3, zq4, zq5, zq6]
   refine tqK (i := 4) (v := ?_) rfl ?_ ?_
   rotate_left
   ·(intro w hSw; (try dsimp only at hSw); go_simp <;> (try with_reducible rfl))
   try simp only [Act.put, zq1, zq2, zq3, zq4, zq5, zq6]
   refine wpAnyG_ready (rs := [5]) (by kernel_rfl) (by simp) ?_
   refine AllReadyG.cons (i := 5) rfl (fun K hK => ?_) ?_
   ·(go_simp; refine (HClone.out _ (by repeat (first | exact Only.refl _ _ | apply Only.drew | apply Only.alloc | apply Only.drewN))).mono ?_; rintro e wc ⟨vc, rfl, rc, nc, oc⟩; obtain ⟨ac, cc, rfl, -, -⟩ := own_slice rc; have HOc := Lib.hid oc; have HRc := Lib.hid rc; have HNc := Lib.hid nc; clear rc nc oc; try go_wp2_with fail)
    refine hK.out _ _ ?_ (fun hHeld => ?_)
    ·(try dsimp only) <;> (exact HS.out _ (((Only.refl (fun _ => False) wB).drew).same HOc.out))
    clear hK K
    try simp only [Act.put, zq1, zq2, zq3, zq4, zq5, zq6]
    refine tqW (i := 6) (v := ?_) rfl (.inr (by assumption)) ?_ ?_
    rotate_left
    ·(intro w; go_simp <;> (try with_reducible rfl))
    try simp only [Act.put, zq1, zq2, zq3, zq4, zq5, zq6]
    refine wpAnyG_ready (rs := [7]) (by kernel_rfl) (by simp) ?_
    refine AllReadyG.cons (i := 7) rfl (fun K hK => ?_) ?_
    ·go_simp
     refine hK.out _ _ ?_ (fun hHeld => ?_)
     ·(try dsimp only) <;> (exact HS.out _ (by repeat (first | exact (((Only.refl (fun _ => False) wB).drew).same HOc.out) | apply Only.alloc | apply Only.drew)))
     clear hK K
     try simp only [Act.put, zq1, zq2, zq3, zq4, zq5, zq6]
     refine wpAnyG_ready (rs := [8]) (by kernel_rfl) (by simp) ?_
     refine AllReadyG.cons (i := 8) rfl (fun K hK => ?_) ?_
     ·(refine RowZ.step (us := [.bool x, .slice ac c.length cc]) slStep (by rfl) (.tmp 17) (.tmp 24) (by rfl) (by rfl) (by rfl) rfl (by intro j hj; match j, hj with | 0, _ => simp | 1, _ => simp) (by intro u hu; simp at hu; rcases hu with rfl | rfl <;> rfl) (by repeat (first | exact (HAB.out.only0 (((Only.refl (fun _ => False) wB).drew).same HOc.out)).row | apply RowZ.drew | apply RowZ.alloc | apply RowZ.drewN)) (by omega) (by decide) ?_; intro bb cap w6 rr1 rr2)
      refine hK.out _ _ ?_ (fun hHeld => ?_)
      ·(try dsimp only) <;> (exact ⟨cell_keep hHeld.1 rr2 (by intro h; have := HGB.out; rw [h] at this; cases this), cell_keep hHeld.2 rr2 (by intro h; have := HGB.out; rw [h] at this; cases this)⟩)
      clear hK K
      try simp only [Act.put, zq1, zq2, zq3, zq4, zq5, zq6]
      refine tqW (i := 9) (v := ?_) rfl (.inr (by assumption)) ?_ ?_
      rotate_left
      ·(intro w; go_simp <;> (try with_reducible rfl))
      try simp only [Act.put, zq1, zq2, zq3, zq4, zq5, zq6]
      refine wpAnyG_done (by kernel_rfl) ?_ _
      have ho1 : Only (fun _ => False) wB wc := ((Only.refl (fun _ => False) wB).drew).same HOc.out
      have hI2 : Ints wc (.slice ac c.length cc) c := Ints.of_own HRc.out HRng.out
      have hn2 : NotMine g (.slice ac c.length cc) c := fun hp k hk => HAB.out.fr k (by
       have hk2 : (Value.slice ac c.length cc).ownBlock = some k := by
        obtain ⟨q, cq, hq, -, -⟩ := own_some HRc.out hp
        simp only [Value.slice.injEq] at hq
        obtain ⟨rfl, -, -⟩ := hq
        exact hk
       exact HNc.out k hk2)
      obtain ⟨g6, hz⟩ := ((HAB.out.only0 ho1).only0 ((Only.refl (fun _ => False) wc).alloc (.cells #[.bool x, .slice ac c.length cc] 76))).step cj HP.out (hI2.only0 ((Only.refl _ _).alloc _)) hn2 (s := wc.heap.size + 1) (by simp) (by simpa using rr1) rr2
      have HZ := Lib.hid hz
      clear hz hI2 hn2 ho1 rr1 rr2 hHeld
      go_wp2_with fail
      go_roundw
      case rel => exact ⟨j + 1, us ++ [.slice ac c.length cc], g6, some ⟨bb, 0, none⟩, cap, by first | rfl | go_num, rfl, by omega, HZ.out⟩
      case measure => simp [intOf] <;> omega
     exact AllReadyG.nil
    exact AllReadyG.nil
   exact AllReadyG.nil
  ·have hjl : j = P.length := by omega
   subst hjl
   clear hA
   go_wp2_with fail
   go_ret
   exact ⟨_, rfl, HA.out.steps, HA.out.on⟩
end
end Go.Proofs.YtjedgdamommgeaaGreat

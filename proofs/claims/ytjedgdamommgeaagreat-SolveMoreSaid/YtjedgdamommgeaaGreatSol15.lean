/- The walk of (*solve.Solver).learns. (Printed by gen_sol15.py.) -/
import Derived.Test.YtjedgdamommgeaaGreatSolB
import Derived.Test.YtjedgdamommgeaaGreatRegs
set_option linter.unusedVariables false
namespace Go.Proofs.YtjedgdamommgeaaGreat
open Go.RowKit
open Tr
theorem slNote : SlT Tryz.prog 64 116 4 32 := SlT.mk' (z := .agg #[.int .i64 0, .int .i64 0, .int .i64 0, .bool false]) Tryz.underlying64 (by kernel_rfl) rfl (by decide)
section
variable {w w' : World} {G G' : Tag} {b : Nat} {V : SvV} {S : Sv.St}
set_option maxRecDepth 100000 in
set_option maxHeartbeats 3200000 in
theorem solve_learns_no (H : SvAt w G b V S) (I : Inv S.T) (hop : Opens V S) (k : Int) (hle : S.T.lesson k = none ∨ S.T.lesson k = some none) (hp : S.proof.length + 1 ≤ 1099511627776) :
  Calls Tryz.prog 43 #[.pointer (some ⟨b, 0, none⟩), .int .i64 k] w fun e w' => e = .returned (.bool false) ∧ SvOk w G b { S with dead := true, proof := S.proof ++ [(false, [])] } w' := by
 have hok := SvOk.refl H hop
 obtain ⟨bt, q1, hF⟩ := hok.from I.ok k
 have hF2 : ∃ r, Calls Tryz.prog 74 #[.pointer (some ⟨bt, 0, none⟩), .int .i64 k] w fun e w' => Only (fun _ => False) w w' ∧ e = .returned (.tuple #[.agg #[nilS, cI 0, nilS], .bool r]) := by
  rcases hle with h | h
  ·rw [h] at hF; exact ⟨false, hF⟩
  ·rw [h] at hF; exact ⟨true, hF⟩
 obtain ⟨r, hF2⟩ := hF2
 have HF := Lib.hid hF2
 have HH := Lib.hid H
 have HP := Lib.hid hop
 clear hF hF2 hok hle I H hop
 go_enter Tryz.func43, Tryz.ntmps43
 go_wp2_with fail
 refine HF.out.mono ?_
 rintro e w1 ⟨O1, rfl⟩
 obtain ⟨B, hB⟩ : ∃ B, w1.heap.size = B := ⟨_, rfl⟩
 obtain ⟨wA, hwA⟩ : ∃ wA, w1.alloc (.cells #[nilS, cI 0, nilS] 110) = wA := ⟨_, rfl⟩
 have hbA : wA.heap[B]? = some (.cells #[nilS, cI 0, nilS] 110 (0, 0)) := by rw [← hwA, ← hB]; exact heap_alloc_new _ _
 have oA : Only (fun _ => False) w wA := by rw [← hwA]; exact O1.alloc _
 have HBA := Lib.hid hbA
 have hBs : w.heap.size ≤ B := by rw [← hB]; exact O1.size
 clear hbA
 obtain ⟨wB, hwB⟩ : ∃ wB, wA.setRow B #[nilS, cI 0, nilS] = wB := ⟨_, rfl⟩
 have hbB : wB.heap[B]? = some (.cells #[nilS, cI 0, nilS] 110 (0, 0)) := by rw [← hwB]; exact setRow_heap _ _ _ _ _ _ HBA.out
 have oB : Only (fun _ => False) w wB := by rw [← hwB]; exact oA.trans (only_setRow _ _ _) (fun k hk => .inr (by omega))
 have c0 : wB.cell? ⟨B, 0, none⟩ = some (.slice none 0 0) := by rw [cell_block hbB]; rfl
 have hB0 := HH.out.only0 oB
 have hok2 : SvOk wB G b S wB := SvOk.refl hB0 HP.out
 have f7 := hB0.free 7
 have c7 := hB0.f7
 have hset := (hok2.setD true).proves (v := nilS) (c := []) (Ints.of_own (World.ownsRow_nil _ _ _ _) (by simp)) (by simp) hp
 have hprn : Sv.proves [] = [(false, [])] := by unfold Sv.proves; rw [form_self (by simp) List.Pairwise.nil]
 rw [hprn] at hset
 have HPr := Lib.hid (hset.mono (R' := fun e w' => e = .returned (.tuple #[]) ∧ SvOk w G b { S with dead := true, proof := S.proof ++ [(false, [])] } w') fun e w' h => ⟨h.1, h.2.pre (Agree.refl _ _) (oB.mono fun _ f => f.elim)⟩)
 clear hset hprn hok2 hB0 oB hbB oA O1 hBs
 cases r with
 | false =>
  go_wp2_with ((refine wpList_store_row rfl 110 (.tmp 5) (.tmp 18) rfl B #[nilS, cI 0, nilS] rfl rfl 110 #[nilS, cI 0, nilS] HBA.out (by kernel_rfl) rfl (by first | kernel_rfl | rfl | simp [Value.oneCell']) ?_); rw [hwB])
  refine HPr.out.mono ?_
  rintro e w9 ⟨rfl, h9⟩
  have H9 := Lib.hid h9
  clear h9
  go_wp2_with fail
  go_ret
  exact ⟨rfl, H9.out⟩
 | true =>
  go_wp2_with ((refine wpList_store_row rfl 110 (.tmp 5) (.tmp 18) rfl B #[nilS, cI 0, nilS] rfl rfl 110 #[nilS, cI 0, nilS] HBA.out (by kernel_rfl) rfl (by first | kernel_rfl | rfl | simp [Value.oneCell']) ?_); rw [hwB])
  refine HPr.out.mono ?_
  rintro e w9 ⟨rfl, h9⟩
  have H9 := Lib.hid h9
  clear h9
  go_wp2_with fail
  go_ret
  exact ⟨rfl, H9.out⟩
set_option maxRecDepth 100000 in
set_option maxHeartbeats 12800000 in
theorem solve_learns_yes (H : SvAt w G b V S) (I : Inv S.T) (hop : Opens V S) (k : Int) {L : Less} (hle : S.T.lesson k = some (some L)) (hg : Up.Good S.T.n L.clause) (hne : 0 < L.clause.length) (hbk : InI64 L.back) (hcls : S.T.cls.length < 2147483648) (hp : S.proof.length + 1 ≤ 1099511627776) (hln : S.learnt.length + 1 ≤ 1099511627776) :
  Calls Tryz.prog 43 #[.pointer (some ⟨b, 0, none⟩), .int .i64 k] w fun e w' => e = .returned (.bool true) ∧ SvOk w G b (S.learn L) w' := by
 have hn := I.ok.n
 have hat := lesson_atoms I.ok hle
 have hok := SvOk.refl H hop
 obtain ⟨bt, q1, hF⟩ := hok.from I.ok k
 rw [hle] at hF
 have hF2 : Calls Tryz.prog 74 #[.pointer (some ⟨bt, 0, none⟩), .int .i64 k] w fun e w' => Only (fun _ => False) w w' ∧ ∃ vc va, e = .returned (.tuple #[.agg #[vc, cI L.back, va], .bool true]) ∧ w'.ownsRow 0 3 1 vc L.clause.length (L.clause.map cI) ∧ w'.ownsRow 0 3 1 va L.atoms.length (L.atoms.map cI) ∧ (∀ k, vc.ownBlock = some k → w.heap.size ≤ k) ∧ (∀ k, va.ownBlock = some k → w.heap.size ≤ k) := hF
 have hlen : L.clause.length ≤ 65536 := Nat.le_trans hg.len hn
 have hlr : ∀ x ∈ L.clause, InI64 x := fun x hx => by have := hg.lit x hx; unfold InI64; omega
 have har : ∀ x ∈ L.atoms, InI64 x := fun x hx => by have := hat x hx; unfold InI64; omega
 obtain ⟨n, hnn⟩ : ∃ n, L.clause.length = n := ⟨_, rfl⟩
 obtain ⟨m, hmm⟩ : ∃ m, L.atoms.length = m := ⟨_, rfl⟩
 have hcl2 : (S.T.back L.back).cls.length < 2147483648 := by rw [(back_same S.T L.back).1]; exact hcls
 have I2 : Inv (S.T.back L.back) := I.back L.back
 have hlearn : ({ S with T := (S.T.back L.back).addX L.clause, learnt := S.learnt ++ [⟨(S.T.back L.back).addR L.clause, (n : Int), ((S.T.levs L.clause).length : Int)⟩], proof := S.proof ++ Sv.proves L.clause } : Sv.St) = S.learn L := by rw [← hnn]; rfl
 have hll := levs_len S.T L.clause.length L.clause
 rw [List.take_of_length_le (Nat.le_refl _)] at hll
 have HLearn := Lib.hid hlearn
 have HF := Lib.hid hF2
 have HH := Lib.hid H
 have HP := Lib.hid hop
 have HI := Lib.hid I
 have HAt := Lib.hid hat
 have HLr := Lib.hid hlr
 have HAr := Lib.hid har
 have HI2 := Lib.hid I2
 have HCl := Lib.hid hcl2
 have HPl := Lib.hid hp
 have HLn := Lib.hid hln
 have HBk := Lib.hid hbk
 have hlevI : ((S.T.levs L.clause).length : Int) ≤ 65536 := by omega
 rw [hnn] at hne hlen hF2
 obtain ⟨lv, hlv⟩ : ∃ lv : Nat, (S.T.levs L.clause).length = lv := ⟨_, rfl⟩
 rw [hlv] at hlevI HLearn
 have HLv := Lib.hid hlv
 clear hF hF2 hok hle I H hop hat hlr har hg hcls hp hln hcl2 I2 hlearn hll hlv hbk
 go_enter Tryz.func43, Tryz.ntmps43
 go_wp2_with fail
 refine HF.out.mono ?_
 clear HF
 rintro e w1 ⟨O1, vc, va, rfl, R1, R2, N1, N2⟩
 have hI1 : Ints w1 vc L.clause := Ints.of_own R1 HLr.out
 have hI2 : Ints w1 va L.atoms := Ints.of_own R2 HAr.out
 rw [hnn] at R1
 rw [hmm] at R2
 obtain ⟨bc, cc, rfl, -, -⟩ := own_some R1 hne
 obtain ⟨aa, ca, rfl, hm1, hm2⟩ := own_slice R2
 have hmB : m ≤ 9223372036854775807 := by unfold maxLen at hm2; omega
 clear hm1 hm2
 have hN1 : NotMine G (.slice (some ⟨bc, 0, none⟩) n cc) L.clause := fun hp k hk => HH.out.fresh k (N1 k hk)
 have hN2 : NotMine G (.slice aa m ca) L.atoms := fun hp k hk => HH.out.fresh k (N2 k (by
   obtain ⟨q, cq, hq, -, -⟩ := own_some R2 (by omega)
   simp only [Value.slice.injEq] at hq
   obtain ⟨rfl, -, -⟩ := hq
   exact hk))
 obtain ⟨B, hB⟩ : ∃ B, w1.heap.size = B := ⟨_, rfl⟩
 obtain ⟨wA, hwA⟩ : ∃ wA, w1.alloc (.cells #[nilS, cI 0, nilS] 110) = wA := ⟨_, rfl⟩
 have hbA : wA.heap[B]? = some (.cells #[nilS, cI 0, nilS] 110 (0, 0)) := by rw [← hwA, ← hB]; exact heap_alloc_new _ _
 have oA1 : Only (fun _ => False) w1 wA := by rw [← hwA]; exact (Only.refl _ _).alloc _
 have HBA := Lib.hid hbA
 have hBs : w.heap.size ≤ B := by rw [← hB]; exact O1.size
 have HI1 := Lib.hid hI1
 have HI22 := Lib.hid hI2
 have HN1 := Lib.hid hN1
 have HN2 := Lib.hid hN2
 clear hbA R1 R2 N1 N2 hI1 hI2 hN1 hN2
 obtain ⟨wB, hwB⟩ : ∃ wB, wA.setRow B #[.slice (some ⟨bc, 0, none⟩) n cc, cI L.back, .slice aa m ca] = wB := ⟨_, rfl⟩
 have hbB : wB.heap[B]? = some (.cells #[.slice (some ⟨bc, 0, none⟩) n cc, cI L.back, .slice aa m ca] 110 (0, 0)) := by rw [← hwB]; exact setRow_heap _ _ _ _ _ _ HBA.out
 have oB1 : Only (fun _ => False) w1 wB := by rw [← hwB]; exact oA1.trans (only_setRow _ _ _) (fun k hk => .inr (by omega))
 have oB : Only (fun _ => False) w wB := O1.same oB1
 have hB0 := HH.out.only0 oB
 have hok2 : SvOk wB G b S wB := SvOk.refl hB0 HP.out
 have hGB : (G B).1 = 0 := HH.out.fresh B hBs
 have hkeep : ∀ W, Only (Mine G) wB W → W.cell? ⟨B, 0, none⟩ = some (.slice (some ⟨bc, 0, none⟩) n cc) ∧ W.cell? ⟨B, 1, none⟩ = some (cI L.back) ∧ W.cell? ⟨B, 2, none⟩ = some (.slice aa m ca) ∧ Ints W (.slice (some ⟨bc, 0, none⟩) n cc) L.clause ∧ Ints W (.slice aa m ca) L.atoms := by
  intro W hW
  have hb2 := only_block hbB hW (fun h => h hGB)
  exact ⟨by rw [cell_block hb2]; rfl, by rw [cell_block hb2]; rfl, by rw [cell_block hb2]; rfl, (HI1.out.only0 oB1).mine HN1.out hW, (HI22.out.only0 oB1).mine HN2.out hW⟩
 have HKeep := Lib.hid hkeep
 have HOB := Lib.hid oB
 have HOk2 := Lib.hid hok2
 obtain ⟨k0, k1, k2, i1, i2⟩ := hkeep wB (Only.refl _ _)
 obtain ⟨bt2, z1, hlev⟩ := (hok2.only0 ((Only.refl (fun _ => False) wB).drew)).levels HI.out.ok (i1.only0 ((Only.refl _ _).drew)) (by rw [hnn]; omega)
 rw [HLv.out] at hlev
 have HLev := Lib.hid hlev
 have z1' := hok2.f.1
 have dn : ((n : Int) == 0) = false := beq_eq_false_iff_ne.2 (by omega)
 clear hlev hok2 hB0 oB oB1 hbB oA1 O1 hkeep hGB z1' i1 i2 hBs HH HP HN1 HN2 HI1 HI22
 go_wp2_with ((refine wpList_store_row rfl 110 (.tmp 5) (.tmp 18) rfl B #[.slice (some ⟨bc, 0, none⟩) n cc, cI L.back, .slice aa m ca] rfl rfl 110 #[nilS, cI 0, nilS] HBA.out (by kernel_rfl) rfl (by first | kernel_rfl | rfl | simp [Value.oneCell']) ?_); rw [hwB])
 refine wp_region_G (n := 8) (E := fun i => i == 6) (S := fun w' => w'.cell? ⟨b, 1, none⟩ = some (.pointer (some ⟨bt2, 0, none⟩)) ∧ w'.cell? ⟨B, 0, none⟩ = some (.slice (some ⟨bc, 0, none⟩) n cc)) (by kernel_rfl) rfl ⟨z1, k0⟩ (fun hHeld => ?_)
 refine tqW (i := 0) (v := ?_) rfl (.inr (by assumption)) ?_ ?_
 rotate_left
 ·(intro w; go_simp <;> (try with_reducible rfl))
 try simp only [Act.put, zq1, zq3, zq4, zq5, zq6]
 refine tqW (i := 1) (v := ?_) rfl (.inr (by assumption)) ?_ ?_
 rotate_left
 ·(intro w; go_simp <;> (try with_reducible rfl))
 try simp only [Act.put, zq1, zq2, zq3, zq4, zq5, zq6]
 refine tqW (i := 2) (v := ?_) rfl (.inr (by assumption)) ?_ ?_
 rotate_left
 ·(intro w; go_simp <;> (try with_reducible rfl))
 try simp only [Act.put, zq1, zq2, zq3, zq4, zq5, zq6]
 refine tqK (i := 3) (v := ?_) rfl ?_ ?_
 rotate_left
 ·(intro w hSw; (try dsimp only at hSw); go_simp <;> (try with_reducible rfl))
 try simp only [Act.put, zq1, zq2, zq3, zq4, zq5, zq6]
 refine tqW (i := 4) (v := ?_) rfl (.inr (by assumption)) ?_ ?_
 rotate_left
 ·(intro w; go_simp <;> (try with_reducible rfl))
 try simp only [Act.put, zq1, zq2, zq3, zq4, zq5, zq6]
 refine tqK (i := 5) (v := ?_) rfl ?_ ?_
 rotate_left
 ·(intro w hSw; (try dsimp only at hSw); go_simp <;> (try with_reducible rfl))
 try simp only [Act.put, zq1, zq2, zq3, zq4, zq5, zq6]
 refine wpAnyG_ready (rs := [6]) (by kernel_rfl) (by simp) ?_
 refine AllReadyG.late (i := 6) rfl (by kernel_rfl) (fun K hK => ?_) ?_
 ·(obtain ⟨s1, s2⟩ := hHeld; go_simp; refine (HLev.out).mono ?_; rintro e w5 ⟨rfl, h5⟩; try go_wp2_with fail)
  refine hK.out _ _ ?_
  clear hK K
  try simp only [Act.put, zq1, zq2, zq3, zq4, zq5, zq6]
  refine tqW (i := 7) (v := ?_) rfl (.inl (by kernel_rfl)) ?_ ?_
  rotate_left
  ·(intro w; go_simp <;> (try with_reducible rfl))
  try simp only [Act.put, zq1, zq2, zq3, zq4, zq5, zq6]
  refine wpAnyG_done (by kernel_rfl) ?_ _
  have H5 := Lib.hid h5
  obtain ⟨k0, k1, k2, i1, i2⟩ := HKeep.out w5 h5.on
  clear h5 s1 s2 i1 i2 k0 k1 HLev
  go_wp2_with fail
  go_loopw [43] (fun v wr => ∃ j : Nat, v = .int .i64 j ∧ j ≤ m ∧ SvOk wB G b S wr) (fun v _ => m - (intOf v).toNat)
  case atStart => exact ⟨0, rfl, Nat.zero_le _, H5.out⟩
  case round =>
   clear H5
   obtain ⟨j, rfl, hj, h6⟩ := hrel
   obtain ⟨k0, k1, k2, i1, i2⟩ := HKeep.out wr h6.on
   by_cases cj : j < m
   ·obtain ⟨ba, oa, rfl, _, hcs⟩ := i2.cells _ _ _ rfl (by omega)
    have qx := hcs j (by omega)
    have hx := HAt.out _ (getD_mem' (k := j) 0 (by omega))
    obtain ⟨a, ha⟩ : ∃ a : Nat, L.atoms.getD j 0 = (a : Int) + 1 := ⟨(L.atoms.getD j 0 - 1).toNat, by omega⟩
    rw [ha] at qx hx
    obtain ⟨bh, y, z2, z6, hy, hbm⟩ := (h6.only0 ((Only.refl (fun _ => False) wr).drew)).bump
    have HBm := Lib.hid (hbm a (by omega))
    have ewj : IntKind.i64.wrap ((j : Int) + 1) = ((j + 1 : Nat) : Int) := by rw [IntWalk.i64_in _ (by omega)]; rfl
    clear hcs ha hbm h6 i1 i2
    go_wp2_with fail
    refine wp_region_G (n := 10) (E := fun i => i == 9) (S := fun w' => w'.cell? ⟨b, 2, none⟩ = some (.pointer (some ⟨bh, 0, none⟩)) ∧ w'.cell? ⟨b, 6, none⟩ = some (.int .u64 (y : Int))) (by kernel_rfl) rfl ⟨z2, z6⟩ (fun hHeld => ?_)
    refine tqW (i := 0) (v := ?_) rfl (.inr (by assumption)) ?_ ?_
    rotate_left
    ·(intro w; go_simp <;> (try with_reducible rfl))
    try simp only [Act.put, zq1, zq3, zq4, zq5, zq6]
    refine tqW (i := 1) (v := ?_) rfl (.inr (by assumption)) ?_ ?_
    rotate_left
    ·(intro w; go_simp <;> (try with_reducible rfl))
    try simp only [Act.put, zq1, zq2, zq3, zq4, zq5, zq6]
    refine tqW (i := 2) (v := ?_) rfl (.inr (by assumption)) ?_ ?_
    rotate_left
    ·(intro w; go_simp <;> (try with_reducible rfl))
    try simp only [Act.put, zq1, zq2, zq3, zq4, zq5, zq6]
    refine tqK (i := 3) (v := ?_) rfl ?_ ?_
    rotate_left
    ·(intro w hSw; (try dsimp only at hSw); go_simp <;> (try with_reducible rfl))
    try simp only [Act.put, zq1, zq2, zq3, zq4, zq5, zq6]
    refine tqW (i := 4) (v := ?_) rfl (.inr (by assumption)) ?_ ?_
    rotate_left
    ·(intro w; go_simp <;> (try with_reducible rfl))
    try simp only [Act.put, zq1, zq2, zq3, zq4, zq5, zq6]
    refine tqW (i := 5) (v := ?_) rfl (.inr (by assumption)) ?_ ?_
    rotate_left
    ·(intro w; go_simp <;> (try with_reducible rfl))
    try simp only [Act.put, zq1, zq2, zq3, zq4, zq5, zq6]
    refine tqW (i := 6) (v := ?_) rfl (.inr (by assumption)) ?_ ?_
    rotate_left
    ·(intro w; go_simp <;> (try with_reducible rfl))
    try simp only [Act.put, zq1, zq2, zq3, zq4, zq5, zq6]
    refine tqW (i := 7) (v := ?_) rfl (.inr (by assumption)) ?_ ?_
    rotate_left
    ·(intro w; go_simp <;> (try with_reducible rfl))
    try simp only [Act.put, zq1, zq2, zq3, zq4, zq5, zq6]
    refine tqK (i := 8) (v := ?_) rfl ?_ ?_
    rotate_left
    ·(intro w hSw; (try dsimp only at hSw); go_simp <;> (try with_reducible rfl))
    try simp only [Act.put, zq1, zq2, zq3, zq4, zq5, zq6]
    refine wpAnyG_ready (rs := [9]) (by kernel_rfl) (by simp) ?_
    refine AllReadyG.late (i := 9) rfl (by kernel_rfl) (fun K hK => ?_) ?_
    ·(obtain ⟨s1, s2⟩ := hHeld; go_simp; refine (HBm.out).mono ?_; rintro e w5 ⟨rfl, h5⟩; try go_wp2_with fail)
     refine hK.out _ _ ?_
     clear hK K
     try simp only [Act.put, zq1, zq2, zq3, zq4, zq5, zq6]
     refine wpAnyG_done (by kernel_rfl) ?_ _
     have H7 := Lib.hid h5
     clear h5 s1 s2
     go_wp2_with fail
     go_roundw
     case rel => exact ⟨j + 1, by first | rfl | go_num, by omega, H7.out⟩
     case measure => simp [intOf] <;> omega
    exact AllReadyG.nil
   ·have hjm : j = m := by omega
    obtain ⟨bh, y, z2, z6, hy, -⟩ := (h6.only0 ((Only.refl (fun _ => False) wr).drew)).bump
    have hfr := (h6.only0 ((Only.refl (fun _ => False) wr).drew)).f.2.2.1
    have hdr := h6.only0 ((Only.refl (fun _ => False) wr).drew)
    obtain ⟨hc8, hf8⟩ := hdr.cell6 (y + ((y / 20) + 1))
    obtain ⟨q, hq⟩ : ∃ q : Nat, y / 20 = q := ⟨_, rfl⟩
    rw [hq] at hc8 hf8
    have u1 : ((y : Int)).tdiv 20 = (q : Int) := by rw [Int.tdiv_eq_ediv_of_nonneg (by omega)]; omega
    have u1' : ((y : Int)) / 20 = (q : Int) := by omega
    have u2 : IntKind.u64.wrap (q : Int) = (q : Int) := IntWalk.u64_in _ (by omega)
    have u3 : IntKind.u64.wrap ((q : Int) + 1) = ((q + 1 : Nat) : Int) := by rw [IntWalk.u64_in _ (by omega)]; rfl
    have u4 : IntKind.u64.wrap ((y : Int) + ((q + 1 : Nat) : Int)) = ((y + (q + 1) : Nat) : Int) := by rw [IntWalk.u64_in _ (by omega)]; rfl
    have u5 : IntKind.u64.wrap ((y : Int) + ((q : Int) + 1)) = ((y + (q + 1) : Nat) : Int) := by rw [IntWalk.u64_in _ (by omega)]; rfl
    have hqy : q ≤ 54975581389 := by omega
    have HDr := Lib.hid hdr
    have HC8 := Lib.hid hc8
    have HF8 := Lib.hid hf8
    clear h6 hdr hc8 hf8 i1 i2 hq
    subst hjm
    go_wp2_with fail
    refine wp_region_G (n := 14) (E := fun i => i == 13) (S := fun w' => w'.cell? ⟨b, 6, none⟩ = some (.int .u64 (y : Int)) ∧ w'.frozen? ⟨b, 6, none⟩ = false) (by kernel_rfl) rfl ⟨z6, hfr⟩ (fun hHeld => ?_)
    refine tqW (i := 0) (v := ?_) rfl (.inr (by assumption)) ?_ ?_
    rotate_left
    ·(intro w; go_simp <;> (try with_reducible rfl))
    try simp only [Act.put, zq1, zq3, zq4, zq5, zq6]
    refine tqW (i := 1) (v := ?_) rfl (.inr (by assumption)) ?_ ?_
    rotate_left
    ·(intro w; go_simp <;> (try with_reducible rfl))
    try simp only [Act.put, zq1, zq2, zq3, zq4, zq5, zq6]
    refine tqW (i := 2) (v := ?_) rfl (.inr (by assumption)) ?_ ?_
    rotate_left
    ·(intro w; go_simp <;> (try with_reducible rfl))
    try simp only [Act.put, zq1, zq2, zq3, zq4, zq5, zq6]
    refine tqK (i := 3) (v := ?_) rfl ?_ ?_
    rotate_left
    ·(intro w hSw; (try dsimp only at hSw); go_simp <;> (try with_reducible rfl))
    try simp only [Act.put, zq1, zq2, zq3, zq4, zq5, zq6]
    refine tqW (i := 4) (v := ?_) rfl (.inr (by assumption)) ?_ ?_
    rotate_left
    ·(intro w; go_simp <;> (try with_reducible rfl))
    try simp only [Act.put, zq1, zq2, zq3, zq4, zq5, zq6]
    refine tqW (i := 5) (v := ?_) rfl (.inr (by assumption)) ?_ ?_
    rotate_left
    ·(intro w; go_simp <;> (try with_reducible rfl))
    try simp only [Act.put, zq1, zq2, zq3, zq4, zq5, zq6]
    refine tqW (i := 6) (v := ?_) rfl (.inr (by assumption)) ?_ ?_
    rotate_left
    ·(intro w; go_simp <;> (try with_reducible rfl))
    try simp only [Act.put, zq1, zq2, zq3, zq4, zq5, zq6]
    refine tqK (i := 7) (v := ?_) rfl ?_ ?_
    rotate_left
    ·(intro w hSw; (try dsimp only at hSw); go_simp <;> (try with_reducible rfl))
    try simp only [Act.put, zq1, zq2, zq3, zq4, zq5, zq6]
    refine tqW (i := 8) (v := ?_) rfl (.inr (by assumption)) ?_ ?_
    rotate_left
    ·(intro w; go_simp <;> (try with_reducible rfl))
    try simp only [Act.put, zq1, zq2, zq3, zq4, zq5, zq6]
    refine tqW (i := 9) (v := ?_) rfl (.inr (by assumption)) ?_ ?_
    rotate_left
    ·(intro w; go_simp <;> (try with_reducible rfl))
    try simp only [Act.put, zq1, zq2, zq3, zq4, zq5, zq6]
    refine tqW (i := 10) (v := ?_) rfl (.inr (by assumption)) ?_ ?_
    rotate_left
    ·(intro w; go_simp <;> (try with_reducible rfl))
    try simp only [Act.put, zq1, zq2, zq3, zq4, zq5, zq6]
    refine tqW (i := 11) (v := ?_) rfl (.inr (by assumption)) ?_ ?_
    rotate_left
    ·(intro w; go_simp <;> (try with_reducible rfl))
    try simp only [Act.put, zq1, zq2, zq3, zq4, zq5, zq6]
    refine tqW (i := 12) (v := ?_) rfl (.inr (by assumption)) ?_ ?_
    rotate_left
    ·(intro w; go_simp <;> (try with_reducible rfl))
    try simp only [Act.put, zq1, zq2, zq3, zq4, zq5, zq6]
    refine wpAnyG_ready (rs := [13]) (by kernel_rfl) (by simp) ?_
    refine AllReadyG.late (i := 13) rfl (by kernel_rfl) (fun K hK => ?_) ?_
    ·(obtain ⟨s1, s2⟩ := hHeld; go_simp)
     refine hK.out _ _ ?_
     clear hK K
     try simp only [Act.put, zq1, zq2, zq3, zq4, zq5, zq6]
     refine wpAnyG_done (by kernel_rfl) ?_ _
     obtain ⟨w8, hw80⟩ : ∃ w8, (wr.setCell ⟨b, 6, none⟩ (.int .u64 ((y : Int) + ((q : Int) + 1)))).drew = w8 := ⟨_, rfl⟩
     have hw8 : wr.drew.setCell ⟨b, 6, none⟩ (.int .u64 ((y + (q + 1) : Nat) : Int)) = w8 := by rw [← hw80, show ((y + (q + 1) : Nat) : Int) = (y : Int) + ((q : Int) + 1) by omega]; rfl
     have HW80 := Lib.hid hw80
     try rw [hw80]
     clear hw80
     have hb8 : w8.cell? ⟨b, 6, none⟩ = some (.int .u64 ((y + (q + 1) : Nat) : Int)) := by rw [← hw8]; exact HC8.out
     have f8 : w8.frozen? ⟨b, 6, none⟩ = false := by rw [← hw8]; exact HF8.out
     obtain ⟨y2, hy2⟩ : ∃ y2 : Nat, y + (q + 1) = y2 := ⟨_, rfl⟩
     rw [hy2] at hb8 hw8
     try rw [hy2]
     have HW8 := Lib.hid hw8
     clear hw8 s1 s2
     go_upto_if 75 with fail
     go_cut [] (fun wx => SvOk wB G b S wx)
     case first =>
      by_cases cy : y2 ≤ 1099511627776
      ·have dy : decide ((1099511627776 : Int) < (y2 : Int)) = false := decide_eq_false (by omega)
       have dy2 : decide (1099511627776 < y2) = false := decide_eq_false (by omega)
       have hz : SvOk wB G b S w8 := by rw [← HW8.out]; exact HDr.out.setY ⟨by omega, cy⟩
       have HZ := Lib.hid hz
       clear hz
       go_wp2_with fail
       go_meet
       exact HZ.out
      ·have dy : decide ((1099511627776 : Int) < (y2 : Int)) = true := decide_eq_true (by omega)
       have dy2 : decide (1099511627776 < y2) = true := decide_eq_true (by omega)
       obtain ⟨bh2, e1, hh⟩ := HDr.out.halveY y2
       rw [HW8.out] at e1 hh
       obtain ⟨y3, hy3⟩ : ∃ y3 : Nat, y2 / 2 = y3 := ⟨_, rfl⟩
       have u1 : ((y2 : Int)).tdiv 2 = (y3 : Int) := by rw [Int.tdiv_eq_ediv_of_nonneg (by omega)]; omega
       have u1' : ((y2 : Int)) / 2 = (y3 : Int) := by omega
       have u2 : IntKind.u64.wrap (y3 : Int) = (y3 : Int) := IntWalk.u64_in _ (by omega)
       have HHa := Lib.hid hh
       clear hh
       go_wp2_with fail
       refine HHa.out.mono ?_
       rintro e w9 ⟨rfl, c6, f6, hfin⟩
       have HZ := Lib.hid (hfin y3 (by omega))
       clear hfin
       go_wp2_with fail
       go_meet
       exact HZ.out
     case rest =>
     obtain ⟨k0, k1, k2, i1, i2⟩ := HKeep.out wc hcut.on
     have HBa := Lib.hid (hcut.back HI.out L.back HBk.out)
     clear hcut i1 i2
     go_wp2_with fail
     refine HBa.out.mono ?_
     rintro e w10 ⟨rfl, h10⟩
     obtain ⟨k0, k1, k2, i1, i2⟩ := HKeep.out w10 h10.on
     have HPr := Lib.hid (h10.proves i1 (by rw [hnn]; omega) HPl.out)
     clear h10 i1 i2
     go_wp2_with fail
     refine HPr.out.mono ?_
     rintro e w11 ⟨rfl, h11⟩
     obtain ⟨k0, k1, k2, i1, i2⟩ := HKeep.out w11 h11.on
     obtain ⟨bt3, z1, hadd⟩ := (h11.only0 ((Only.refl (fun _ => False) w11).drew)).add HI2.out HCl.out (i1.only0 ((Only.refl _ _).drew)) (by rw [hnn]; omega)
     obtain ⟨ar, har⟩ : ∃ ar, (S.T.back L.back).addR L.clause = ar := ⟨_, rfl⟩
     rw [har] at HLearn
     simp only [har] at hadd
     have HAdd := Lib.hid hadd
     clear hadd h11 i1 i2 har
     go_wp2_with fail
     refine wp_region_G (n := 8) (E := fun i => i == 6) (S := fun w' => w'.cell? ⟨b, 1, none⟩ = some (.pointer (some ⟨bt3, 0, none⟩)) ∧ w'.cell? ⟨B, 0, none⟩ = some (.slice (some ⟨bc, 0, none⟩) n cc)) (by kernel_rfl) rfl ⟨z1, k0⟩ (fun hHeld => ?_)
     refine tqW (i := 0) (v := ?_) rfl (.inr (by assumption)) ?_ ?_
     rotate_left
     ·(intro w; go_simp <;> (try with_reducible rfl))
     try simp only [Act.put, zq1, zq3, zq4, zq5, zq6]
     refine tqW (i := 1) (v := ?_) rfl (.inr (by assumption)) ?_ ?_
     rotate_left
     ·(intro w; go_simp <;> (try with_reducible rfl))
     try simp only [Act.put, zq1, zq2, zq3, zq4, zq5, zq6]
     refine tqW (i := 2) (v := ?_) rfl (.inr (by assumption)) ?_ ?_
     rotate_left
     ·(intro w; go_simp <;> (try with_reducible rfl))
     try simp only [Act.put, zq1, zq2, zq3, zq4, zq5, zq6]
     refine tqK (i := 3) (v := ?_) rfl ?_ ?_
     rotate_left
     ·(intro w hSw; (try dsimp only at hSw); go_simp <;> (try with_reducible rfl))
     try simp only [Act.put, zq1, zq2, zq3, zq4, zq5, zq6]
     refine tqW (i := 4) (v := ?_) rfl (.inr (by assumption)) ?_ ?_
     rotate_left
     ·(intro w; go_simp <;> (try with_reducible rfl))
     try simp only [Act.put, zq1, zq2, zq3, zq4, zq5, zq6]
     refine tqK (i := 5) (v := ?_) rfl ?_ ?_
     rotate_left
     ·(intro w hSw; (try dsimp only at hSw); go_simp <;> (try with_reducible rfl))
     try simp only [Act.put, zq1, zq2, zq3, zq4, zq5, zq6]
     refine wpAnyG_ready (rs := [6]) (by kernel_rfl) (by simp) ?_
     refine AllReadyG.late (i := 6) rfl (by kernel_rfl) (fun K hK => ?_) ?_
     ·(obtain ⟨s1, s2⟩ := hHeld; go_simp; refine (HAdd.out).mono ?_; rintro e w5 ⟨rfl, h5⟩; try go_wp2_with fail)
      refine hK.out _ _ ?_
      clear hK K
      try simp only [Act.put, zq1, zq2, zq3, zq4, zq5, zq6]
      refine tqW (i := 7) (v := ?_) rfl (.inl (by kernel_rfl)) ?_ ?_
      rotate_left
      ·(intro w; go_simp <;> (try with_reducible rfl))
      try simp only [Act.put, zq1, zq2, zq3, zq4, zq5, zq6]
      refine wpAnyG_done (by kernel_rfl) ?_ _
      obtain ⟨G3, al, cl, ns, a1, a2, a3, a4⟩ := h5.lapp
      obtain ⟨k0, k1, k2, i1, i2⟩ := HKeep.out w5 h5.on
      have hS5 : ∀ w', Only (fun q => G3 q = (5, 0)) w5 w' → w'.cell? ⟨b, 4, none⟩ = some (.slice al S.learnt.length cl) ∧ w'.frozen? ⟨b, 4, none⟩ = false ∧ w'.cell? ⟨B, 0, none⟩ = some (.slice (some ⟨bc, 0, none⟩) n cc) := fun w' h => by
       obtain ⟨u1, u2, u3⟩ := a3 w' h
       exact ⟨u1, u2, (HKeep.out w' u3).1⟩
      have HS5 := Lib.hid hS5
      have HFin := Lib.hid (a4 ⟨ar, (n : Int), (lv : Int)⟩)
      have HRL := Lib.hid a2
      have hS0 := hS5 w5.drew ((Only.refl _ _).drew)
      clear a1 a2 a3 a4 hS5 h5 s1 s2 i1 i2
      go_wp2_with fail
      refine wp_region_G (n := 16) (E := fun i => i == 15) (S := fun w' => w'.cell? ⟨b, 4, none⟩ = some (.slice al S.learnt.length cl) ∧ w'.frozen? ⟨b, 4, none⟩ = false ∧ w'.cell? ⟨B, 0, none⟩ = some (.slice (some ⟨bc, 0, none⟩) n cc)) (by kernel_rfl) rfl hS0 (fun hHeld => ?_)
      refine tqW (i := 0) (v := ?_) rfl (.inr (by assumption)) ?_ ?_
      rotate_left
      ·(intro w; go_simp <;> (try with_reducible rfl))
      try simp only [Act.put, zq1, zq3, zq4, zq5, zq6]
      refine tqW (i := 1) (v := ?_) rfl (.inr (by assumption)) ?_ ?_
      rotate_left
      ·(intro w; go_simp <;> (try with_reducible rfl))
      try simp only [Act.put, zq1, zq2, zq3, zq4, zq5, zq6]
      refine tqW (i := 2) (v := ?_) rfl (.inr (by assumption)) ?_ ?_
      rotate_left
      ·(intro w; go_simp <;> (try with_reducible rfl))
      try simp only [Act.put, zq1, zq2, zq3, zq4, zq5, zq6]
      refine tqW (i := 3) (v := ?_) rfl (.inr (by assumption)) ?_ ?_
      rotate_left
      ·(intro w; go_simp <;> (try with_reducible rfl))
      try simp only [Act.put, zq1, zq2, zq3, zq4, zq5, zq6]
      refine tqK (i := 4) (v := ?_) rfl ?_ ?_
      rotate_left
      ·(intro w hSw; (try dsimp only at hSw); go_simp <;> (try with_reducible rfl))
      try simp only [Act.put, zq1, zq2, zq3, zq4, zq5, zq6]
      refine tqW (i := 5) (v := ?_) rfl (.inr (by assumption)) ?_ ?_
      rotate_left
      ·(intro w; go_simp <;> (try with_reducible rfl))
      try simp only [Act.put, zq1, zq2, zq3, zq4, zq5, zq6]
      refine tqW (i := 6) (v := ?_) rfl (.inr (by assumption)) ?_ ?_
      rotate_left
      ·(intro w; go_simp <;> (try with_reducible rfl))
      try simp only [Act.put, zq1, zq2, zq3, zq4, zq5, zq6]
      refine tqK (i := 7) (v := ?_) rfl ?_ ?_
      rotate_left
      ·(intro w hSw; (try dsimp only at hSw); go_simp <;> (try with_reducible rfl))
      try simp only [Act.put, zq1, zq2, zq3, zq4, zq5, zq6]
      refine tqW (i := 8) (v := ?_) rfl (.inr (by assumption)) ?_ ?_
      rotate_left
      ·(intro w; go_simp <;> (try with_reducible rfl))
      try simp only [Act.put, zq1, zq2, zq3, zq4, zq5, zq6]
      refine tqW (i := 9) (v := ?_) rfl (.inr (by assumption)) ?_ ?_
      rotate_left
      ·(intro w; go_simp <;> (try with_reducible rfl))
      try simp only [Act.put, zq1, zq2, zq3, zq4, zq5, zq6]
      refine tqW (i := 10) (v := ?_) rfl (.inr (by assumption)) ?_ ?_
      rotate_left
      ·(intro w; go_simp <;> (try with_reducible rfl))
      try simp only [Act.put, zq1, zq2, zq3, zq4, zq5, zq6]
      refine wpAnyG_ready (rs := [11]) (by kernel_rfl) (by simp) ?_
      refine AllReadyG.cons (i := 11) rfl (fun K hK => ?_) ?_
      ·go_simp
       refine hK.out _ _ ?_ (fun hHeld => ?_)
       ·(try dsimp only) <;> (exact HS5.out _ (by repeat (first | exact Only.refl _ _ | apply Only.drew | apply Only.alloc | apply Only.drewN)))
       clear hK K
       try simp only [Act.put, zq1, zq2, zq3, zq4, zq5, zq6]
       refine wpAnyG_ready (rs := [12]) (by kernel_rfl) (by simp) ?_
       refine AllReadyG.cons (i := 12) rfl (fun K hK => ?_) ?_
       ·(refine RowZ.step (us := [.int .i64 ar, .int .i64 (n : Int), .int .i64 (lv : Int), .bool false]) slNote (by rfl) (.tmp 107) (.tmp 114) (by rfl) (by rfl) (by rfl) rfl (by intro j hj; match j, hj with | 0, _ => simp | 1, _ => simp | 2, _ => simp | 3, _ => simp) (by intro u hu; simp at hu; rcases hu with rfl | rfl | rfl | rfl <;> rfl) (by repeat (first | exact HRL.out | apply RowZ.drew | apply RowZ.alloc | apply RowZ.drewN)) HLn.out (by decide) ?_; intro bb cap w6 rr1 rr2)
        refine hK.out _ _ ?_ (fun hHeld => ?_)
        ·(try dsimp only) <;> (exact HS5.out _ (Only.same (by repeat (first | exact Only.refl _ _ | apply Only.drew | apply Only.alloc | apply Only.drewN)) rr2))
        clear hK K
        try simp only [Act.put, zq1, zq2, zq3, zq4, zq5, zq6]
        refine tqW (i := 13) (v := ?_) rfl (.inr (by assumption)) ?_ ?_
        rotate_left
        ·(intro w; go_simp <;> (try with_reducible rfl))
        try simp only [Act.put, zq1, zq2, zq3, zq4, zq5, zq6]
        refine tqW (i := 14) (v := ?_) rfl (.inr (by assumption)) ?_ ?_
        rotate_left
        ·(intro w; go_simp <;> (try with_reducible rfl))
        try simp only [Act.put, zq1, zq2, zq3, zq4, zq5, zq6]
        refine wpAnyG_ready (rs := [15]) (by kernel_rfl) (by simp) ?_
        refine AllReadyG.late (i := 15) rfl (by kernel_rfl) (fun K hK => ?_) ?_
        ·(obtain ⟨s1, s2, s3⟩ := hHeld; go_simp)
         refine hK.out _ _ ?_
         clear hK K
         try simp only [Act.put, zq1, zq2, zq3, zq4, zq5, zq6]
         refine wpAnyG_done (by kernel_rfl) ?_ _
         have hz := HFin.out _ _ w6 _ rr2 (by simp) rr1 (by repeat (first | exact Only.refl _ _ | apply Only.drew | apply Only.alloc | apply Only.drewN))
         have HZ := Lib.hid (hz.pre (Agree.refl _ _) (HOB.out.mono fun _ f => f.elim))
         clear hz rr1 rr2 s1 s2 s3
         go_wp2_with fail
         go_ret
         refine ⟨rfl, ?_⟩
         rw [← HLearn.out]
         exact HZ.out
        exact AllReadyG.nil
       exact AllReadyG.nil
      exact AllReadyG.nil
     exact AllReadyG.nil
    exact AllReadyG.nil
 exact AllReadyG.nil
end
end Go.Proofs.YtjedgdamommgeaaGreat

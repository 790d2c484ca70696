/- choice.Ground: one. Printed by gen_ch3.py. -/
import Derived.Test.YtbapkcnfacklaaaCh2
import Derived.Test.YtbapkcnfacklaaaStepA
import Derived.Deep.DeepCutAuto
set_option linter.unusedVariables false
namespace Go.Proofs.Ytbapkcnfacklaaa
open Go.RowKit
def oneC (node : Int) (row : List Int) : List (List Int) := (-node :: row) :: (mostC row ++ row.map fun n => [-n, node])
def Bld.one (B : Bld) (node : Int) (row : List Int) : Bld := if node = 0 ∨ row.contains 0 = true then B else B.adds (oneC node row)
section
variable {w : World} {gt gb : Tag} {c bt bb : Nat} {G : GrV} {T : Tab} {B : Bld}
def NotM (gt gb : Tag) (v : Value) (xs : List Int) : Prop := 0 < xs.length → ∀ k, Value.blk v = some k → ¬ Mine gt k ∧ ¬ Mine gb k
theorem Ints.mine2 {v : Value} {xs : List Int} (h : Ints w v xs) (hn : NotM gt gb v xs) {w' : World} (ho : Only (fun k => Mine gt k ∨ Mine gb k) w w') : Ints w' v xs :=
 h.only' ho fun hp k hk hm => by
  rcases hm with hm | hm
  ·exact (hn hp k hk).1 hm
  ·exact (hn hp k hk).2 hm
theorem NotM.b {v : Value} {xs : List Int} (hn : NotM gt gb v xs) : NotMine gb v xs := fun hp k hk => by
 have := (hn hp k hk).2
 unfold Mine at this
 exact Classical.not_not.1 this
theorem NotM.agree {v : Value} {xs : List Int} (hn : NotM gt gb v xs) (hI : Ints w v xs) {gt' gb' : Tag} (ht : Agree w gt gt') (hb : Agree w gb gb') : NotM gt' gb' v xs := fun hp k hk => by
 have hlt := hI.lt hp hk
 have := hn hp k hk
 unfold Mine at this ⊢
 rwa [ht k hlt, hb k hlt]
theorem Most_gr (H : GrAt w gt gb c bt bb G T B) {v : Value} {xs : List Int} (hI : Ints w v xs) (hN : NotM gt gb v xs) (hs : ∀ z ∈ xs, -1000000 ≤ z ∧ z ≤ 1000000) (hl : xs.length ≤ 1000000) :
  Calls Try.prog 41 #[.pointer (some ⟨bb, 0, none⟩), v] w fun e w' => e = .returned (.tuple #[]) ∧ GrTo w gt gb c bt bb G T (B.adds (mostC xs)) w' := by
 obtain ⟨V, hV⟩ := H.bld
 exact (Most_any hV hI hN.b hs hl).mono fun e w' ⟨he, h⟩ => ⟨he, H.step_b h⟩
theorem own_lit1 {w : World} {e : TypeId} {g : Nat} {u : Value} (h : w.heap[g]? = some (.cells #[u] e)) : w.ownsRow 0 e 1 (.slice (some ⟨g, 0, none⟩) 1 1) 1 [u] :=
 ⟨rfl, .inr ⟨g, 1, #[u], rfl, Nat.zero_le _, h, Nat.le_refl _, by unfold maxLen; omega, rfl, rfl⟩⟩
theorem GrAt.bcell (H : GrAt w gt gb c bt bb G T B) : w.cell? ⟨c, 6, none⟩ = some (.pointer (some ⟨bb, 0, none⟩)) := by rw [cell_block H.blk]; rfl
theorem Add_gr (H : GrAt w gt gb c bt bb G T B) {v : Value} {xs : List Int} (hI : Ints w v xs) (hb : xs.length ≤ 1099511627) :
  Calls Try.prog 40 #[.pointer (some ⟨bb, 0, none⟩), v] w fun e w' => e = .returned (.tuple #[]) ∧ GrTo w gt gb c bt bb G T (B.add xs) w' := by
 obtain ⟨V, hV⟩ := H.bld
 exact (Add_any hV hI hb).mono fun e w' ⟨he, h⟩ => ⟨he, H.step_b h⟩
set_option maxRecDepth 100000 in
set_option maxHeartbeats 2000000 in
theorem one_gr (H : GrAt w gt gb c bt bb G T B) {v : Value} {row : List Int} (hI : Ints w v row) (hn : NotM gt gb v row) (node : Int) (hb : -1000000 ≤ node ∧ node ≤ 1000000) (hs : ∀ z ∈ row, -1000000 ≤ z ∧ z ≤ 1000000) (hl : row.length ≤ 1000000) :
  Calls Try.prog 26 #[.pointer (some ⟨c, 0, none⟩), .int .i64 node, v] w fun e w' => e = .returned (.tuple #[]) ∧ GrTo w gt gb c bt bb G T (B.one node row) w' := by
 obtain ⟨ao, cap, rfl, hc1, hc2⟩ := hI.shape
 obtain ⟨n, hnl⟩ : ∃ n, row.length = n := ⟨_, rfl⟩
 have HN := Lib.hid hnl
 rw [hnl] at hc1 hl hI hn ⊢
 have HI := Lib.hid hI
 have HNm := Lib.hid hn
 have HS := Lib.hid hs
 have H0 := Lib.hid H
 obtain ⟨r0, hr0⟩ : ∃ r, row.contains 0 = r := ⟨_, rfl⟩
 have HR0 := Lib.hid hr0
 have HC := Lib.hid (Contains_any hI 0 r0 hr0)
 obtain ⟨B2, hB2⟩ : ∃ B2, B.one node row = B2 := ⟨_, rfl⟩
 rw [hB2]
 have HB2 := Lib.hid hB2
 clear hI hn hs hnl H hr0 hB2
 go_enter Try.func26, Try.ntmps26
 by_cases h0 : node = 0
 ·have hB : B2 = B := by rw [← HB2.out]; unfold Bld.one; rw [if_pos (.inl h0)]
  subst hB
  subst h0
  go_wp2_with fail
  ((try simp only [Exit.inBlock, Exit.then]); refine bodyPost_ret (results_none rfl _ _ _) rfl ?_)
  exact ⟨rfl, GrTo.refl H0.out⟩
 ·go_wp2_with fail
  refine HC.out.mono ?_
  rintro e w1 ⟨rfl, rfl⟩
  cases r0 with
  | true =>
   have hB : B2 = B := by rw [← HB2.out]; unfold Bld.one; rw [if_pos (.inr HR0.out)]
   subst hB
   go_wp2_with fail
   ((try simp only [Exit.inBlock, Exit.then]); refine bodyPost_ret (results_none rfl _ _ _) rfl ?_)
   exact ⟨rfl, GrTo.refl H0.out⟩
  | false =>
   have hB : B2 = B.adds (oneC node row) := by rw [← HB2.out]; unfold Bld.one; rw [if_neg (by rw [HR0.out]; simp [h0])]
   subst hB
   have ewn : IntKind.i64.wrap (-node) = -node := by rw [IntKind.wrap_i64]; omega
   have HK : Hid (∀ W, Only (fun _ => False) w1 W → W.cell? ⟨c, 6, none⟩ = some (.pointer (some ⟨bb, 0, none⟩))) := fun W hW => (H0.out.only0 hW).bcell
   have hS0 := HK.out w1.drew ((Only.refl _ _).drew)
   have HNews : Hid (∀ W, Only (fun _ => False) w1 W → ∀ ad, ao = some ad → ∀ j u, (row.map cI)[j]? = some u → W.cell? (ad.add j) = some u) := fun W hW => (HI.out.only0 hW).news
   have HNil : Hid (ao = none → n = 0 ∧ cap = 0) := fun e => HI.out.nil n cap (by rw [e])
   have HLen : Hid ((row.map cI).length = n * 1) := by rw [List.length_map, HN.out, Nat.mul_one]; exact rfl
   have HAd : Hid (∀ W v2, Only (fun _ => False) w1 W → W.ownsRow 0 3 1 v2 (1 + n) ([cI (-node)] ++ row.map cI) → Calls Try.prog 40 #[.pointer (some ⟨bb, 0, none⟩), v2] W fun e w' => e = .returned (.tuple #[]) ∧ GrTo w1 gt gb c bt bb G T (B.add (-node :: row)) w') := fun W v2 hW hown => by
    have hI2 : Ints W v2 (-node :: row) := by
     refine Ints.of_own ?_ fun z hz => ?_
     ·have e1 : 1 + n = (-node :: row).length := by rw [List.length_cons, HN.out]; omega
      rw [e1] at hown
      simpa using hown
     ·rcases List.mem_cons.1 hz with rfl | hz
      ·exact ⟨by omega, by omega⟩
      ·have := HS.out z hz; exact ⟨by omega, by omega⟩
    refine (Add_gr (H0.out.only0 hW) hI2 (by rw [List.length_cons, HN.out]; omega)).mono fun e w' ⟨he, h⟩ => ⟨he, GrTo.after hW h⟩
   go_wp2_with fail
   go_cut [] (fun wx => GrTo w1 gt gb c bt bb G T (B.add (-node :: row)) wx)
   case first =>
    refine wp_region_G (n := 10) (E := fun j => j == 9) (S := fun W => W.cell? ⟨c, 6, none⟩ = some (.pointer (some ⟨bb, 0, none⟩))) (by kernel_rfl) rfl hS0 (fun hHeld => ?_)
    refine tqW (i := 0) (v := ?_) rfl (.inr (by assumption)) ?_ ?_
    rotate_left
    ·(intro w; go_simp <;> (try with_reducible rfl))
    try simp only [Act.put, zq1, zq3, zq4, zq5, zq6]
    refine tqW (i := 1) (v := ?_) rfl (.inr (by assumption)) ?_ ?_
    rotate_left
    ·(intro w; go_simp <;> (try with_reducible rfl))
    try simp only [Act.put, zq1, zq2, zq3, zq4, zq5, zq6]
    refine tqW (i := 2) (v := ?_) rfl (.inr (by assumption)) ?_ ?_
    rotate_left
    ·(intro w; go_simp <;> (try with_reducible rfl))
    try simp only [Act.put, zq1, zq2, zq3, zq4, zq5, zq6]
    refine tqK (i := 3) (v := ?_) rfl ?_ ?_
    rotate_left
    ·(intro w hSw; (try dsimp only at hSw); go_simp <;> (try with_reducible rfl))
    try simp only [Act.put, zq1, zq2, zq3, zq4, zq5, zq6]
    refine tqW (i := 4) (v := ?_) rfl (.inr (by assumption)) ?_ ?_
    rotate_left
    ·(intro w; go_simp <;> (try with_reducible rfl))
    try simp only [Act.put, zq1, zq2, zq3, zq4, zq5, zq6]
    refine tqW (i := 5) (v := ?_) rfl (.inr (by assumption)) ?_ ?_
    rotate_left
    ·(intro w; go_simp <;> (try with_reducible rfl))
    try simp only [Act.put, zq1, zq2, zq3, zq4, zq5, zq6]
    refine tqW (i := 7) (v := ?_) rfl (.inr (by assumption)) ?_ ?_
    rotate_left
    ·(intro w; go_simp <;> (try with_reducible rfl))
    try simp only [Act.put, zq1, zq2, zq3, zq4, zq5, zq6]
    refine wpAnyG_ready (rs := [6]) (by kernel_rfl) (by simp) ?_
    refine AllReadyG.cons (i := 6) rfl (fun K hK => ?_) ?_
    ·go_simp
     refine hK.out _ _ ?_ (fun hHeld => ?_)
     ·(try dsimp only) <;> (exact HK.out _ (by repeat (first | exact Only.refl _ _ | apply Only.drew | apply Only.alloc | apply Only.drewN)))
     clear hK K
     try simp only [Act.put, zq1, zq2, zq3, zq4, zq5, zq6]
     refine wpAnyG_ready (rs := [8]) (by kernel_rfl) (by simp) ?_
     refine AllReadyG.cons (i := 8) rfl (fun K hK => ?_) ?_
     ·(refine stepAN slInt (by rfl) (.tmp 20) (.tmp 21) (by rfl) (by rfl) (own_lit1 (by exact heap_alloc_new _ _)) (by rfl) HLen.out HNil.out (by exact HNews.out _ (by repeat (first | exact Only.refl _ _ | apply Only.drew | apply Only.alloc | apply Only.drewN))) (by intro u hu; obtain ⟨q, -, rfl⟩ := List.mem_map.1 hu; rfl) (by omega) (by decide) ?_; intro ao5 cap5 w5 r5 o5 nr5; have oA : Only (fun _ => False) w1 w5 := Only.trans (by repeat (first | exact Only.refl _ _ | apply Only.drew | apply Only.alloc | apply Only.drewN)) o5 (fun k hk => .inr (by simp [Value.ownBlock] at hk; (try simp); omega)))
      refine hK.out _ _ ?_ (fun hHeld => ?_)
      ·(try dsimp only) <;> (exact HK.out _ oA)
      clear hK K
      try simp only [Act.put, zq1, zq2, zq3, zq4, zq5, zq6]
      refine wpAnyG_ready (rs := [9]) (by kernel_rfl) (by simp) ?_
      refine AllReadyG.late (i := 9) rfl (by kernel_rfl) (fun K hK => ?_) ?_
      ·(go_simp; refine (HAd.out _ _ oA r5).mono ?_; rintro e w7 ⟨rfl, h7⟩; try go_wp2_with fail)
       refine hK.out _ _ ?_
       clear hK K
       try simp only [Act.put, zq1, zq2, zq3, zq4, zq5, zq6]
       refine wpAnyG_done (by kernel_rfl) ?_ _
       go_wp2_with fail
       go_meet
       exact h7
      exact AllReadyG.nil
     exact AllReadyG.nil
    exact AllReadyG.nil
   case rest =>
    clear hS0 HK HNews HNil HLen HAd
    obtain ⟨gt1, gb1, H1, A1, A1', O1⟩ := hcut
    have hI1 := HI.out.mine2 HNm.out O1
    have hbc := H1.bcell
    have HM := Lib.hid (Most_gr H1 hI1 (HNm.out.agree HI.out A1 A1') HS.out (by rw [HN.out]; exact hl))
    have HT1 : Hid (∀ w2, GrTo wc gt1 gb1 c bt bb G T ((B.add (-node :: row)).adds (mostC row)) w2 → GrTo w1 gt gb c bt bb G T ((B.adds ((-node :: row) :: mostC row)).adds ((row.map fun n => [-n, node]).take 0)) w2) := fun w2 h => GrTo.trans A1 A1' O1 h
    clear H1 A1 A1' O1 hI1
    go_wp2_with fail
    refine HM.out.mono ?_
    rintro e w2 ⟨rfl, h2⟩
    have H3 := Lib.hid (HT1.out w2 h2)
    clear h2 hbc HM HT1
    go_wp2_with fail
    go_loopw [32] (fun vk wr => ∃ k : Nat, vk = .int .i64 k ∧ k ≤ n ∧ Hid (GrTo w1 gt gb c bt bb G T ((B.adds ((-node :: row) :: mostC row)).adds ((row.map fun n => [-n, node]).take k)) wr)) (fun v _ => n - (RowKit.intOf v).toNat)
    case atStart => exact ⟨0, rfl, Nat.zero_le _, H3⟩
    case round =>
     clear H3
     obtain ⟨k, rfl, hk, HR⟩ := hrel
     by_cases ck : k < n
     ·obtain ⟨gt1, gb1, H1, A1, A1', O1⟩ := HR.out
      have hbc := H1.bcell
      have hkr : k < row.length := by rw [HN.out]; exact ck
      obtain ⟨b2, off2, rfl, hcell⟩ := (HI.out.mine2 HNm.out O1).cellA hkr
      obtain ⟨y, hy⟩ : ∃ y, row.getD k 0 = y := ⟨_, rfl⟩
      have hyb := HS.out y (by rw [← hy]; exact getD_mem' 0 hkr)
      rw [hy] at hcell
      have hpk : (row.map fun n => [-n, node]).take (k + 1) = (row.map fun n => [-n, node]).take k ++ [[-y, node]] := by
       rw [List.take_succ_eq_append_getElem (by simpa using hkr), List.getElem_map]
       have hk2 : row[k]'hkr = y := by rw [← hy, List.getD_eq_getElem?_getD, List.getElem?_eq_getElem hkr]; rfl
       rw [hk2]
      have hAdd := Add_gr (H1.only0 ((Only.refl (fun _ => False) wr).alloc (.cells #[.int .i64 (-y), .int .i64 node] 3))) (lit2 wr (-y) node ⟨by omega, by omega⟩ ⟨by omega, by omega⟩) (by simp)
      have hfin : ∀ w', GrTo (wr.alloc (.cells #[.int .i64 (-y), .int .i64 node] 3)) gt1 gb1 c bt bb G T (((B.adds ((-node :: row) :: mostC row)).adds ((row.map fun n => [-n, node]).take k)).add [-y, node]) w' → GrTo w1 gt gb c bt bb G T ((B.adds ((-node :: row) :: mostC row)).adds ((row.map fun n => [-n, node]).take (k + 1))) w' := fun w' h => by
       rw [hpk, Bld.adds_app, Bld.adds_one]
       exact GrTo.trans A1 A1' O1 (GrTo.after ((Only.refl _ wr).alloc _) h)
      have ewk : IntKind.i64.wrap ((k : Int) + 1) = (k : Int) + 1 := by rw [IntKind.wrap_i64]; omega
      have ewy : IntKind.i64.wrap (-y) = -y := by rw [IntKind.wrap_i64]; omega
      have HAdd := Lib.hid hAdd
      have HFin := Lib.hid hfin
      have HEk := Lib.hid ewk
      clear hpk hAdd hfin hy H1 A1 A1' O1 ewk
      go_wp2_with fail
      refine HAdd.out.mono ?_
      rintro e w3 ⟨rfl, h3⟩
      have HF := Lib.hid (HFin.out w3 h3)
      have ewk := HEk.out
      clear h3 ewy
      go_wp2_with fail
      go_roundw
      case rel => exact ⟨k + 1, by first | rfl | go_num, by omega, HF⟩
      case measure => simp [RowKit.intOf] <;> omega
     ·obtain rfl : n = k := by omega
      go_wp2_with fail
      go_end0
      refine ⟨rfl, ?_⟩
      have := HR.out
      rw [List.take_of_length_le (by rw [List.length_map, HN.out]; exact Nat.le_refl _)] at this
      have e1 : B.adds (oneC node row) = (B.adds ((-node :: row) :: mostC row)).adds (row.map fun n => [-n, node]) := by
       rw [← Bld.adds_app]; rfl
      rw [e1]; exact this
end
end Go.Proofs.Ytbapkcnfacklaaa

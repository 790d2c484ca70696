/- A nil ground; ChoiceNil: the walk. Printed by gen_ch11.py. -/
import Derived.Test.YtbapkcnfacklaaaCh10
set_option linter.unusedVariables false
namespace Go.Proofs.Ytbapkcnfacklaaa
open Go.RowKit
def AtomC (_ : Nat) (_ : World) (cs : List Value) (x : At) : Prop := cs = [.int .u8 x.1, .int .i64 x.2.1, .int .i64 x.2.2.1, .int .i64 x.2.2.2]
section
variable {w w' : World} {B : Nat}
theorem Places_nil : Calls Try.prog 16 #[.pointer none] w fun e w' => e = .returned nilS ∧ w' = w := by
 go_enter Try.func16, Try.ntmps16
 go_wp2_with fail
 go_ret
 exact ⟨rfl, rfl⟩
theorem Rules_nil : Calls Try.prog 15 #[.pointer none] w fun e w' => e = .returned nilS ∧ w' = w := by
 go_enter Try.func15, Try.ntmps15
 go_wp2_with fail
 go_ret
 exact ⟨rfl, rfl⟩
theorem Table_nil : Calls Try.prog 13 #[.pointer none] w fun e w' => e = .returned (.pointer none) ∧ w' = w := by
 go_enter Try.func13, Try.ntmps13
 go_wp2_with fail
 go_ret
 exact ⟨rfl, rfl⟩
theorem Builder_nil : Calls Try.prog 14 #[.pointer none] w fun e w' => e = .returned (.pointer none) ∧ w' = w := by
 go_enter Try.func14, Try.ntmps14
 go_wp2_with fail
 go_ret
 exact ⟨rfl, rfl⟩
theorem Has_nil (n : Int) : Calls Try.prog 17 #[.pointer none, .int .i64 n] w fun e w' => e = .returned (.bool false) ∧ w' = w := by
 go_enter Try.func17, Try.ntmps17
 go_wp2_with fail
 go_ret
 exact ⟨rfl, rfl⟩
set_option maxRecDepth 100000 in
theorem Look_nil (x : At) : Calls Try.prog 46 #[.pointer none, encA x] w fun e w' => e = .returned (.int .i64 0) ∧ Only (fun _ => False) w w' := by
 unfold encA
 go_enter Try.func46, Try.ntmps46
 go_wp2_with fail
 go_ret
 exact ⟨rfl, (Only.refl _ _).alloc _⟩
set_option maxRecDepth 100000 in
theorem TNumber_nil (x : At) : Calls Try.prog 30 #[.pointer none, encA x] w fun e w' => e = .returned (.int .i64 0) ∧ Only (fun _ => False) w w' := by
 have HL := Lib.hid (Look_nil (w := w.alloc (.cells #[.int .u8 x.1, .int .i64 x.2.1, .int .i64 x.2.2.1, .int .i64 x.2.2.2] 37)) x)
 unfold encA at *
 go_enter Try.func30, Try.ntmps30
 go_wp2_with fail
 refine HL.out.mono ?_
 rintro e w1 ⟨rfl, O1⟩
 go_wp2_with fail
 go_ret
 exact ⟨rfl, ((Only.refl (fun _ => False) w).alloc _).same O1⟩
set_option maxRecDepth 100000 in
theorem GNumber_nil (x : At) : Calls Try.prog 12 #[.pointer none, encA x] w fun e w' => e = .returned (.int .i64 0) ∧ Only (fun _ => False) w w' := by
 obtain ⟨W0, hW0⟩ : ∃ W0, W0 = w.alloc (.cells #[.int .u8 x.1, .int .i64 x.2.1, .int .i64 x.2.2.1, .int .i64 x.2.2.2] 37) := ⟨_, rfl⟩
 have o0 : Only (fun _ => False) w W0 := by rw [hW0]; exact (Only.refl _ _).alloc _
 have HK : Hid (∀ W, Only (fun _ => False) W0 W → W.cell? ⟨w.heap.size, 0, none⟩ = some (.int .u8 x.1) ∧ W.cell? ⟨w.heap.size, 1, none⟩ = some (.int .i64 x.2.1) ∧ W.cell? ⟨w.heap.size, 2, none⟩ = some (.int .i64 x.2.2.1) ∧ W.cell? ⟨w.heap.size, 3, none⟩ = some (.int .i64 x.2.2.2)) := fun W ho => by
  have b0 : W0.heap[w.heap.size]? = some (.cells #[.int .u8 x.1, .int .i64 x.2.1, .int .i64 x.2.2.1, .int .i64 x.2.2.2] 37) := by rw [hW0]; exact heap_alloc_new w _
  have c0 := only_block b0 ho (fun f => f)
  exact ⟨by rw [cell_block c0]; rfl, by rw [cell_block c0]; rfl, by rw [cell_block c0]; rfl, by rw [cell_block c0]; rfl⟩
 have HT : Hid (∀ W : World, Calls Try.prog 13 #[.pointer none] W fun e w' => e = .returned (.pointer none) ∧ w' = W) := fun W => Table_nil
 have HN : Hid (∀ W, Only (fun _ => False) W0 W → Calls Try.prog 30 #[.pointer none, encA x] W fun e w' => e = .returned (.int .i64 0) ∧ Only (fun _ => False) w w') := fun W hW => (TNumber_nil x).mono fun e w' ⟨he, ho⟩ => ⟨he, (o0.same hW).same ho⟩
 have hS0 := HK.out W0.drew ((Only.refl _ _).drew)
 unfold encA at *
 clear o0
 go_enter Try.func12, Try.ntmps12
 go_wp2_with fail
 rw [← hW0]
 clear hW0
 refine wp_region_G (n := 5) (E := fun j => j == 3) (S := fun W => W.cell? ⟨w.heap.size, 0, none⟩ = some (.int .u8 x.1) ∧ W.cell? ⟨w.heap.size, 1, none⟩ = some (.int .i64 x.2.1) ∧ W.cell? ⟨w.heap.size, 2, none⟩ = some (.int .i64 x.2.2.1) ∧ W.cell? ⟨w.heap.size, 3, none⟩ = some (.int .i64 x.2.2.2)) (by kernel_rfl) rfl hS0 (fun hHeld => ?_)
 refine tqW (i := 0) (v := ?_) rfl (.inr (by assumption)) ?_ ?_
 rotate_left
 ·(intro w; go_simp <;> (try with_reducible rfl))
 try simp only [Act.put, zq1, zq3, zq4, zq5, zq6]
 refine tqK (i := 2) (v := ?_) rfl ?_ ?_
 rotate_left
 ·(intro w hSw; (try dsimp only at hSw); go_simp <;> (try with_reducible rfl))
 try simp only [Act.put, zq1, zq2, zq3, zq4, zq5, zq6]
 refine wpAnyG_ready (rs := [1]) (by kernel_rfl) (by simp) ?_
 refine AllReadyG.cons (i := 1) rfl (fun K hK => ?_) ?_
 ·(go_simp; refine (HT.out _).mono ?_; rintro e w5 ⟨rfl, rfl⟩; try go_wp2_with fail)
  refine hK.out _ _ ?_ (fun hHeld => ?_)
  ·(try dsimp only) <;> (exact HK.out _ (by repeat (first | exact Only.refl _ _ | apply Only.drew | apply Only.alloc | apply Only.drewN)))
  clear hK K
  try simp only [Act.put, zq1, zq2, zq3, zq4, zq5, zq6]
  refine wpAnyG_ready (rs := [3]) (by kernel_rfl) (by simp) ?_
  refine AllReadyG.late (i := 3) rfl (by kernel_rfl) (fun K hK => ?_) ?_
  ·(go_simp; refine (HN.out _ (by exact (by repeat (first | exact Only.refl _ _ | apply Only.drew | apply Only.alloc | apply Only.drewN)))).mono ?_; rintro e w6 ⟨rfl, o6⟩; try go_wp2_with fail)
   refine hK.out _ _ ?_
   clear hK K
   try simp only [Act.put, zq1, zq2, zq3, zq4, zq5, zq6]
   refine tqW (i := 4) (v := ?_) rfl (.inl (by kernel_rfl)) ?_ ?_
   rotate_left
   ·(intro w; go_simp <;> (try with_reducible rfl))
   try simp only [Act.put, zq1, zq2, zq3, zq4, zq5, zq6]
   refine wpAnyG_done (by kernel_rfl) ?_ _
   go_wp2_with fail
   go_ret
   exact ⟨rfl, o6⟩
  exact AllReadyG.nil
 exact AllReadyG.nil
theorem Choices_nil : Calls Try.prog 10 #[.pointer none] w fun e w' => e = .returned (.tuple #[]) ∧ Only (fun _ => False) w w' := by
 go_enter Try.func10, Try.ntmps10
 go_wp2_with fail
 refine Places_nil.mono ?_
 rintro e w1 ⟨rfl, rfl⟩
 go_wp2_with fail
 go_loopw [15] (fun vi wr => vi = .int .i64 0 ∧ wr = w1) (fun _ _ => 0)
 case atStart => exact ⟨rfl, rfl⟩
 case round =>
  obtain ⟨rfl, rfl⟩ := hrel
  go_wp2_with fail
  go_end0
  exact ⟨rfl, Only.refl _ _⟩
theorem field_rec0 (u a : Value) (W : World) : (Instr.field 25 (.agg #[u, a]) 0).run Try.prog W = .ok u W := by
 kernel_rfl
theorem field_req0 (u : Value) (W : World) : (Instr.field 28 (.agg #[u]) 0).run Try.prog W = .ok u W := by
 kernel_rfl
set_option maxRecDepth 100000 in
theorem Recipe_nil : Calls Try.prog 18 #[.pointer none] w fun e w' => e = .returned (.agg #[nilS, nilS]) ∧ Only (fun _ => False) w w' := by
 go_enter Try.func18, Try.ntmps18
 go_wp2_with fail
 (try simp only [Exit.inBlock, Exit.then])
 refine bodyPost_ret (results_cell_row rfl _ _ w.heap.size 25 #[nilS, nilS] (0, 0) _ rfl (heap_alloc_new w _) Try.underlying25 rfl (by kernel_rfl)) rfl ?_
 exact ⟨rfl, (Only.refl _ _).alloc _⟩
set_option maxRecDepth 100000 in
theorem Request_nil : Calls Try.prog 19 #[.pointer none] w fun e w' => e = .returned (.agg #[nilS]) ∧ Only (fun _ => False) w w' := by
 go_enter Try.func19, Try.ntmps19
 go_wp2_with fail
 (try simp only [Exit.inBlock, Exit.then])
 refine bodyPost_ret (results_cell_row rfl _ _ w.heap.size 28 #[nilS] (0, 0) _ rfl (heap_alloc_new w _) Try.underlying28 rfl (by kernel_rfl)) rfl ?_
 exact ⟨rfl, (Only.refl _ _).alloc _⟩
set_option maxRecDepth 100000 in
set_option maxHeartbeats 2000000 in
theorem ChoiceNil_any {cs : List Value} {x : At} (h : AtomC B w cs x) (n : Int) :
  Calls Try.prog 4 #[.agg cs.toArray, .int .i64 n] w fun e w' => e = .returned (.bool true) ∧ Only (fun _ => False) w w' := by
 obtain rfl := h
 obtain ⟨W0, hW0⟩ : ∃ W0, W0 = w.alloc (.cells #[.int .u8 x.1, .int .i64 x.2.1, .int .i64 x.2.2.1, .int .i64 x.2.2.2] 37) := ⟨_, rfl⟩
 have HO : Hid (Only (fun _ => False) w W0) := by rw [hW0]; exact (Only.refl _ _).alloc _
 have HK : Hid (∀ W, Only (fun _ => False) W0 W → W.cell? ⟨w.heap.size, 0, none⟩ = some (.int .u8 x.1) ∧ W.cell? ⟨w.heap.size, 1, none⟩ = some (.int .i64 x.2.1) ∧ W.cell? ⟨w.heap.size, 2, none⟩ = some (.int .i64 x.2.2.1) ∧ W.cell? ⟨w.heap.size, 3, none⟩ = some (.int .i64 x.2.2.2)) := fun W ho => by
  have b0 : W0.heap[w.heap.size]? = some (.cells #[.int .u8 x.1, .int .i64 x.2.1, .int .i64 x.2.2.1, .int .i64 x.2.2.2] 37) := by rw [hW0]; exact heap_alloc_new w _
  have c0 := only_block b0 ho (fun f => f)
  exact ⟨by rw [cell_block c0]; rfl, by rw [cell_block c0]; rfl, by rw [cell_block c0]; rfl, by rw [cell_block c0]; rfl⟩
 go_enter Try.func4, Try.ntmps4
 go_wp2_with fail
 rw [← hW0]
 clear hW0
 refine Choices_nil.mono ?_
 rintro e w1 ⟨rfl, O1⟩
 have HO1 := Lib.hid O1
 clear O1
 go_wp2_with fail
 refine (fixed13_any w1).mono ?_
 rintro e w2 ⟨rfl, O2⟩
 have HO2 := Lib.hid (HO1.out.same O2)
 obtain ⟨k0, k1, k2, k3⟩ := HK.out w2 HO2.out
 clear O2
 go_wp2_with fail
 refine (GNumber_nil x).mono ?_
 rintro e w3 ⟨rfl, O3⟩
 have HO3 := Lib.hid (HO2.out.same O3)
 clear O3 k0 k1 k2 k3
 go_wp2_with fail
 refine Table_nil.mono ?_
 rintro e w4 ⟨rfl, rfl⟩
 go_wp2_with fail
 refine Builder_nil.mono ?_
 rintro e w5 ⟨rfl, rfl⟩
 go_wp2_with fail
 refine Rules_nil.mono ?_
 rintro e w6 ⟨rfl, rfl⟩
 go_wp2_with fail
 refine Places_nil.mono ?_
 rintro e w7 ⟨rfl, rfl⟩
 go_wp2_with fail
 refine (Has_nil n).mono ?_
 rintro e w8 ⟨rfl, rfl⟩
 go_wp2_with fail
 refine Recipe_nil.mono ?_
 rintro e w9 ⟨rfl, O9⟩
 have fr := field_rec0 nilS nilS
 have HO9 := Lib.hid (HO3.out.same O9)
 clear O9
 go_wp2_with fail
 refine Request_nil.mono ?_
 rintro e w10 ⟨rfl, O10⟩
 clear fr
 have fq := field_req0 nilS
 have HO10 := Lib.hid (HO9.out.same O10)
 clear O10
 go_wp2_with fail
 go_ret
 exact ⟨rfl, HO.out.same HO10.out⟩
end
end Go.Proofs.Ytbapkcnfacklaaa

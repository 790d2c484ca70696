/- The walk of cooperlaw21.SolveNil. -/
import Derived.Test.YtjedgdamommgeaaGreatSolE
set_option linter.unusedVariables false
namespace Go.Proofs.YtjedgdamommgeaaGreat
open Go.RowKit
open Tr
section
variable {w : World}
set_option maxRecDepth 100000 in
set_option maxHeartbeats 1600000 in
theorem SolveNil_walk {v : Value} {c : List Int} (hI : Ints w v c) {n : Int} : Calls Tryz.prog 4 #[v, .int .i64 n] w fun e w' => e = .returned (.bool true) ∧ Only (fun _ => False) w w' := by
 obtain ⟨ac, cc, rfl, -, -⟩ := hI.shape
 clear hI
 go_enter Tryz.func4, Tryz.ntmps4
 go_wp2_with fail
 refine (solve_Solve_nil n).mono ?_
 rintro e w2 ⟨rfl, O2⟩
 have HO := Lib.hid O2
 obtain ⟨B, hB⟩ : ∃ B, w2.heap.size = B := ⟨_, rfl⟩
 obtain ⟨wA, hwA⟩ : ∃ wA, w2.alloc (.cells #[.int .u8 0, nilS, nilS, .int .i64 0] 30) = wA := ⟨_, rfl⟩
 have hbA : wA.heap[B]? = some (.cells #[.int .u8 0, nilS, nilS, .int .i64 0] 30 (0, 0)) := by rw [← hwA, ← hB]; exact heap_alloc_new _ _
 obtain ⟨w3, hw3⟩ : ∃ w3, wA.setRow B #[.int .u8 3, nilS, nilS, .int .i64 0] = w3 := ⟨_, rfl⟩
 have hb3 : w3.heap[B]? = some (.cells #[.int .u8 3, nilS, nilS, .int .i64 0] 30 (0, 0)) := by rw [← hw3]; exact setRow_heap _ _ _ _ _ _ hbA
 have o3 : Only (fun _ => False) w2 w3 := by rw [← hw3, ← hwA]; exact ((Only.refl _ _).alloc _).trans (only_setRow _ _ _) (fun k hk => .inr (by omega))
 have HBA := Lib.hid hbA
 have e0 : ∀ W, Only (fun _ => False) w3 W → W.cell? ⟨B, 0, none⟩ = some (.int .u8 3) ∧ W.cell? ⟨B, 1, none⟩ = some (.slice none 0 0) ∧ W.cell? ⟨B, 2, none⟩ = some (.slice none 0 0) := fun W hW => by
  have hb := only_block hb3 hW (fun f => f)
  exact ⟨by rw [cell_block hb]; rfl, by rw [cell_block hb]; rfl, by rw [cell_block hb]; rfl⟩
 have HE := Lib.hid e0
 have HO3 := Lib.hid o3
 clear O2 hb3 o3 e0 hbA
 go_wp2_with ((refine wpList_store_row rfl 30 (.tmp 6) (.tmp 10) rfl B #[.int .u8 3, nilS, nilS, .int .i64 0] rfl rfl 30 #[.int .u8 0, nilS, nilS, .int .i64 0] HBA.out (by kernel_rfl) rfl (by first | kernel_rfl | rfl | simp [Value.oneCell']) ?_); rw [hw3])
 refine law21_fixed_any.mono ?_
 rintro e w4 ⟨rfl, O4⟩
 obtain ⟨q0, q1, q2⟩ := HE.out w4 O4
 have HO4 := Lib.hid O4
 clear O4
 go_wp2_with fail
 refine (solve_Add_nil _).mono ?_
 rintro e w5 ⟨rfl, rfl⟩
 go_wp2_with fail
 refine solve_Proof_nil.mono ?_
 rintro e w6 ⟨rfl, rfl⟩
 go_wp2_with fail
 refine solve_Atoms_nil.mono ?_
 rintro e w7 ⟨rfl, rfl⟩
 go_wp2_with fail
 go_ret
 exact ⟨rfl, (HO.out.same HO3.out).same HO4.out⟩
end
end Go.Proofs.YtjedgdamommgeaaGreat

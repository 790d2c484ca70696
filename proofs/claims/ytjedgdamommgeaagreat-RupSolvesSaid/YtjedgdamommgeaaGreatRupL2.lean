/- The walk of cooperlaw22.fixed. -/
import Derived.Test.YtjedgdamommgeaaGreatRupL1
set_option linter.unusedVariables false
namespace Go.Proofs.YtjedgdamommgeaaGreat
open Go.RowKit
theorem Ints.of_block {w : World} {b : Nat} {xs : List Int} {t : TypeId} {f : Nat × Nat} (h : w.heap[b]? = some (.cells (xs.map cI).toArray t f)) (hr : ∀ x ∈ xs, InI64 x) (hl : xs.length ≤ 9223372036854775807) : Ints w (.slice (some ⟨b, 0, none⟩) xs.length xs.length) xs := by
 refine ⟨⟨_, _, rfl, Nat.le_refl _, hl⟩, fun ao len cap hv hp => ?_, hr, fun len cap hv => by simp at hv⟩
 simp only [Value.slice.injEq] at hv
 obtain ⟨rfl, rfl, rfl⟩ := hv
 refine ⟨b, 0, rfl, lt_block h, fun i hi => ?_⟩
 rw [cell_block h]
 simp [List.getD, hi, cI]
theorem Cells.of_block {w : World} {b : Nat} {us : List Value} {t : TypeId} {f : Nat × Nat} (h : w.heap[b]? = some (.cells us.toArray t f)) (hl : us.length ≤ 9223372036854775807) : Cells w (.slice (some ⟨b, 0, none⟩) us.length us.length) us := by
 refine ⟨⟨_, _, rfl, Nat.le_refl _, hl⟩, fun ao len cap hv hp => ?_, fun len cap hv => by simp at hv⟩
 simp only [Value.slice.injEq] at hv
 obtain ⟨rfl, rfl, rfl⟩ := hv
 refine ⟨b, 0, rfl, lt_block h, fun i hi => ?_⟩
 rw [cell_block h]
 simp [List.getD, hi]
section
variable {w : World}
theorem ints_new (w : World) (xs : List Int) (t : TypeId) (n : Nat) (hn : n = w.heap.size) (hr : ∀ x ∈ xs, InI64 x) (hl : xs.length ≤ 9223372036854775807) : Ints (w.alloc (.cells (xs.map cI).toArray t)) (.slice (some ⟨n, 0, none⟩) xs.length xs.length) xs := by
 subst hn
 exact Ints.of_block (heap_alloc_new w _) hr hl
theorem ex_clauses (w : World) : IntsS (((w.alloc (.cells #[.int .i64 1, .int .i64 2] 3)).alloc (.cells #[.int .i64 (-1), .int .i64 2] 3)).alloc (.cells #[.slice (some ⟨w.heap.size, 0, none⟩) 2 2, .slice (some ⟨w.heap.size + 1, 0, none⟩) 2 2] 23))
  (.slice (some ⟨w.heap.size + 1 + 1, 0, none⟩) 2 2) [[1, 2], [-1, 2]] := by
 have h1 := ints_new w [1, 2] 3 w.heap.size rfl (by simp [InI64]) (by decide)
 have h2 := ints_new (w.alloc (.cells #[.int .i64 1, .int .i64 2] 3)) [-1, 2] 3 (w.heap.size + 1) (by simp) (by simp [InI64]) (by decide)
 have h1' := (h1.only0 ((Only.refl _ _).alloc (.cells #[.int .i64 (-1), .int .i64 2] 3))).only0 ((Only.refl _ _).alloc (.cells #[.slice (some ⟨w.heap.size, 0, none⟩) 2 2, .slice (some ⟨w.heap.size + 1, 0, none⟩) 2 2] 23))
 have h2' := h2.only0 ((Only.refl _ _).alloc (.cells #[.slice (some ⟨w.heap.size, 0, none⟩) 2 2, .slice (some ⟨w.heap.size + 1, 0, none⟩) 2 2] 23))
 refine ⟨[.slice (some ⟨w.heap.size, 0, none⟩) 2 2, .slice (some ⟨w.heap.size + 1, 0, none⟩) 2 2], ?_, rfl, fun i hi => ?_⟩
 ·have := Cells.of_block (w := ((w.alloc (.cells #[.int .i64 1, .int .i64 2] 3)).alloc (.cells #[.int .i64 (-1), .int .i64 2] 3)).alloc (.cells #[.slice (some ⟨w.heap.size, 0, none⟩) 2 2, .slice (some ⟨w.heap.size + 1, 0, none⟩) 2 2] 23)) (b := w.heap.size + 1 + 1) (us := [.slice (some ⟨w.heap.size, 0, none⟩) 2 2, .slice (some ⟨w.heap.size + 1, 0, none⟩) 2 2]) (t := 23) (f := (0, 0))
   (by have := heap_alloc_new ((w.alloc (.cells #[.int .i64 1, .int .i64 2] 3)).alloc (.cells #[.int .i64 (-1), .int .i64 2] 3)) (.cells #[.slice (some ⟨w.heap.size, 0, none⟩) 2 2, .slice (some ⟨w.heap.size + 1, 0, none⟩) 2 2] 23); simpa using this) (by simp)
  exact this
 ·match i, hi with
  | 0, _ => exact h1'
  | 1, _ => exact h2'
theorem step_new (w : World) (b : Nat) (c : List Int) (u : Value) (hu : Ints w u c) (t : TypeId) (n : Nat) (hn : n = w.heap.size) : StepsAt (w.alloc (.cells #[.bool false, u] t)) (.slice (some ⟨n, 0, none⟩) 1 1) [(false, c)] := by
 subst hn
 refine ⟨⟨_, _, rfl, Nat.le_refl _, by decide⟩, fun ao len cap hv hp => ?_⟩
 simp only [Value.slice.injEq] at hv
 obtain ⟨rfl, rfl, rfl⟩ := hv
 refine ⟨w.heap.size, 0, fun _ => u, rfl, by simp, fun i hi => ?_⟩
 have hi0 : i = 0 := by simp at hi; omega
 subst hi0
 refine ⟨?_, ?_, hu.only0 ((Only.refl _ _).alloc _)⟩
 ·rw [cell_block (heap_alloc_new w _)]; rfl
 ·rw [cell_block (heap_alloc_new w _)]; rfl
set_option maxHeartbeats 800000 in
theorem rup_fixed_any : Calls Tryz.prog 30 #[] w fun e w' => e = .returned (.bool true) ∧ Only (fun _ => False) w w' := by
 have hcl := ex_clauses w
 have hOc : Only (fun _ => False) w (((w.alloc (.cells #[.int .i64 1, .int .i64 2] 3)).alloc (.cells #[.int .i64 (-1), .int .i64 2] 3)).alloc (.cells #[.slice (some ⟨w.heap.size, 0, none⟩) 2 2, .slice (some ⟨w.heap.size + 1, 0, none⟩) 2 2] 23)) := (((Only.refl _ _).alloc _).alloc _).alloc _
 have hsz : (((w.alloc (.cells #[.int .i64 1, .int .i64 2] 3)).alloc (.cells #[.int .i64 (-1), .int .i64 2] 3)).alloc (.cells #[.slice (some ⟨w.heap.size, 0, none⟩) 2 2, .slice (some ⟨w.heap.size + 1, 0, none⟩) 2 2] 23)).heap.size = w.heap.size + 1 + 1 + 1 := by simp
 have HCl := Lib.hid hcl
 have HOc := Lib.hid hOc
 have HSz := Lib.hid hsz.symm
 clear hcl hOc hsz
 go_enter Tryz.func30, Tryz.ntmps30
 go_wp2_with fail
 generalize ((w.alloc (.cells #[.int .i64 1, .int .i64 2] 3)).alloc (.cells #[.int .i64 (-1), .int .i64 2] 3)).alloc (.cells #[.slice (some ⟨w.heap.size, 0, none⟩) 2 2, .slice (some ⟨w.heap.size + 1, 0, none⟩) 2 2] 23) = W at *
 refine (rup_Follows_any (HCl.out.only0 ((Only.refl _ _).alloc _)) (ints_new W [2] 3 _ HSz.out (by simp [InI64]) (by decide)) (by decide) (by decide) (by decide) 2 2 (by decide) true Rup.ex_follows2).mono ?_
 rintro e w1 ⟨rfl, O1⟩
 have O1' : Only (fun _ => False) W w1 := ((Only.refl _ _).alloc _).same O1
 clear O1
 go_wp2_with fail
 refine (rup_Follows_any ((HCl.out.only0 O1').only0 ((Only.refl _ _).alloc _)) (ints_new w1 [1] 3 _ rfl (by simp [InI64]) (by decide)) (by decide) (by decide) (by decide) 2 2 (by decide) false Rup.ex_follows1).mono ?_
 rintro e w2 ⟨rfl, O2⟩
 have O2' : Only (fun _ => False) W w2 := (O1'.alloc _).same O2
 clear O2
 go_wp2_with fail
 have hst := step_new (w2.alloc (.cells #[.int .i64 2] 3)) 0 [2] _ (ints_new w2 [2] 3 _ rfl (by simp [InI64]) (by decide)) 76 (w2.heap.size + 1) (by simp)
 refine (rup_Check_any (((HCl.out.only0 O2').only0 ((Only.refl _ _).alloc _)).only0 ((Only.refl _ _).alloc _)) hst (by decide) (by decide) (by decide) (by decide) 2 2 (by decide)).mono ?_
 rintro e w3 ⟨rfl, O3⟩
 rw [Rup.ex_check]
 have O3' : Only (fun _ => False) w w3 := HOc.out.same (((O2'.alloc _).alloc _).same O3)
 clear O3 hst
 go_wp2_with fail
 go_ret
 exact ⟨rfl, O3'⟩
end
end Go.Proofs.YtjedgdamommgeaaGreat

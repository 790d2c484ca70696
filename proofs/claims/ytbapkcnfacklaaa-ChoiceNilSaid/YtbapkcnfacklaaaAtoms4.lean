/- The walks of package atoms: New, Len, Full, Help. -/
import Derived.Test.YtbapkcnfacklaaaAtoms3
set_option linter.unusedVariables false
namespace Go.Proofs.Ytbapkcnfacklaaa
open Go.RowKit
theorem RowZ.nil (w : World) (g : Tag) (t : Nat × Nat) (e : TypeId) (size : Nat) : RowZ w g t e size (.slice none 0 0) 0 [] :=
 ⟨World.ownsRow_nil _ _ _ _, fun k hk => by simp [Value.ownBlock] at hk⟩
def newTagT (bm b : Nat) : Tag := fun k => if k = b then (21, 0) else if k = bm then (22, 0) else (0, 0)
theorem TabAt.made (w : World) (lim : Nat) (hl : lim ≤ 65536) :
  TabAt ((w.alloc (.map #[] 0)).alloc (.cells #[.map (some w.heap.size), nilS, .int .i64 (lim : Int), .int .i64 0, .bool false] 109)) (newTagT w.heap.size (w.heap.size + 1)) (w.heap.size + 1) ⟨w.heap.size, nilS⟩ ⟨[], lim, 0, false⟩ ∧
   (∀ k, Mine (newTagT w.heap.size (w.heap.size + 1)) k → w.heap.size ≤ k) := by
 have hs : (w.alloc (.map #[] 0)).heap.size = w.heap.size + 1 := by simp
 refine ⟨⟨?_, by simp [newTagT], ⟨#[], ?_, rfl⟩, by simp [newTagT], RowZ.nil _ _ _ _ _, by simp, by simp, hl, by simp, by simp, ?_⟩, fun k hk => ?_⟩
 ·have := heap_alloc_new (w.alloc (.map #[] 0)) (.cells #[.map (some w.heap.size), nilS, .int .i64 (lim : Int), .int .i64 0, .bool false] 109)
  rw [hs] at this
  exact this
 ·exact alloc_block (heap_alloc_new w _) _
 ·intro k hk
  simp at hk
  simp only [newTagT]
  rw [if_neg (by omega), if_neg (by omega)]
 ·unfold Mine newTagT at hk
  split at hk
  ·omega
  ·split at hk
   ·omega
   ·simp at hk
def NewTab (w : World) (lim : Nat) (e : Ending) (w' : World) : Prop := ∃ b g V, e = .returned (.pointer (some ⟨b, 0, none⟩)) ∧ TabAt w' g b V ⟨[], lim, 0, false⟩ ∧ (∀ k, Mine g k → w.heap.size ≤ k) ∧ Only (fun _ => False) w w'
theorem NewTab.of (w : World) (lim : Nat) (hl : lim ≤ 65536) (z : Int) (hz : z = lim) : NewTab w lim (.returned (.pointer (some ⟨w.heap.size + 1, 0, none⟩))) ((w.alloc (.map #[] 0)).alloc (.cells #[.map (some w.heap.size), .slice none 0 0, .int .i64 z, .int .i64 0, .bool false] 109)) := by
 subst hz
 have hm := TabAt.made w lim hl
 exact ⟨_, _, _, rfl, hm.1, hm.2, ((Only.refl _ w).alloc _).alloc _⟩
set_option maxHeartbeats 800000 in
theorem atomsNew_any (w : World) (n : Int) (hn : InI64 n) (lim : Nat) (hl : min (max n 0) 65536 = (lim : Int)) :
  Calls Try.prog 43 #[.int .i64 n] w (NewTab w lim) := by
 have hmm := @run_makeMap Try.prog
 have hm : ∀ z : Int, z = lim → _ := fun z hz => NewTab.of w lim (by omega) z hz
 have HM := Lib.hid hm
 clear hm
 go_enter Try.func43, Try.ntmps43
 go_wp2_with fail
 all_goals (go_ret; exact HM.out _ (by omega))
end Go.Proofs.Ytbapkcnfacklaaa

/- (*counter).merge. -/
import Derived.Test.YtjedgdamommgeaaGreatTot3
set_option linter.unusedVariables false
namespace Go.Proofs.YtjedgdamommgeaaGreat
open Go.RowKit
namespace Tot
def outs (n0 lim m k : Nat) : List Int := (List.range m).map fun i => if i < k ∧ n0 + i < lim then ((n0 + i : Nat) : Int) + 1 else 0
theorem outs_len (n0 lim m k : Nat) : (outs n0 lim m k).length = m := by simp [outs]
theorem outs_zero (n0 lim m : Nat) : outs n0 lim m 0 = List.replicate m 0 := by
 apply List.ext_getElem
 ·simp [outs]
 ·intro i h1 h2; simp [outs]
theorem outs_succ {n0 lim m k : Nat} (hk : k < m) : outs n0 lim m (k + 1) = (outs n0 lim m k).set k (if n0 + k < lim then ((n0 + k : Nat) : Int) + 1 else 0) := by
 apply List.ext_getElem
 ·simp [outs]
 ·intro i h1 h2
  simp only [outs, List.getElem_map, List.getElem_range, List.getElem_set]
  by_cases e : k = i
  ·subst e
   simp
  ·rw [if_neg e]
   have : i < k + 1 ↔ i < k := by omega
   simp only [this]
def nums (n0 m : Nat) : List Int := (List.range m).map fun i => ((n0 + i : Nat) : Int) + 1
theorem outs_all {n0 lim m : Nat} (h : n0 + m ≤ lim) : outs n0 lim m m = nums n0 m := by
 apply List.ext_getElem
 ·simp [outs, nums]
 ·intro i h1 h2
  simp [outs] at h1
  simp only [outs, nums, List.getElem_map, List.getElem_range]
  rw [if_pos (by omega)]
theorem outs_has {n0 lim m : Nat} (h : lim < n0 + m) (hl : n0 ≤ lim) : (outs n0 lim m m).contains 0 = true := by
 rw [List.contains_iff_mem]
 refine List.mem_map.2 ⟨m - 1, List.mem_range.2 (by omega), ?_⟩
 rw [if_neg (by omega)]
theorem nums_not (n0 m : Nat) : (nums n0 m).contains 0 = false := by
 rw [← Bool.not_eq_true, List.contains_iff_mem]
 intro h
 obtain ⟨i, _, hi⟩ := List.mem_map.1 h
 omega
theorem nums_len (n0 m : Nat) : (nums n0 m).length = m := by simp [nums]
end Tot
structure Fill (w : World) (gt gb : Tag) (c bt bb : Nat) (cap : Int) (n0 lim : Nat) (fl : Bool) (B : Bld) (M m k : Nat) (wr : World) (gt' : Tag) (hp n : Nat) (fl' : Bool) : Prop where
 hpn : hp ≤ n
 hn : n = min (n0 + k) lim
 hfl : fl' = (fl || decide (lim < n0 + k))
 at_ : CtAt wr gt' gb c bt bb cap (Tot.hT n lim hp fl') B
 ag : Agree w gt gt'
 only : Only (fun i => Mine gt i ∨ Mine gb i) w wr
 row : wr.ownsRow 0 3 1 (.slice (some ⟨M, 0, none⟩) m m) m ((Tot.outs n0 lim m k).map cI)
 mt : (gt' M).1 = 0
 mb : (gb M).1 = 0
 ge : w.heap.size ≤ M
section
variable {w : World} {gt gb : Tag} {c bt bb : Nat} {cap : Int} {n0 lim : Nat} {fl : Bool} {B : Bld} {M m k : Nat} {wr : World} {gt' : Tag} {hp n : Nat} {fl' : Bool}
theorem Fill.step (H : Fill w gt gb c bt bb cap n0 lim fl B M m k wr gt' hp n fl') (hk : k < m) {w2 : World} {n2 hp2 : Nat} {fl2 : Bool} {z : Int} (h2 : hp2 ≤ n2) (hn2 : n2 = min (n0 + (k + 1)) lim) (hf2 : fl2 = (fl || decide (lim < n0 + (k + 1)))) (hz : z = if n0 + k < lim then ((n0 + k : Nat) : Int) + 1 else 0)
  (T : TabTo wr gt' bt (Tot.hT n2 lim hp2 fl2) w2) : ∃ gt2, Fill w gt gb c bt bb cap n0 lim fl B M m (k + 1) (w2.setCell ⟨M, k, none⟩ (.int .i64 z)) gt2 hp2 n2 fl2 ∧ w2.cell? ⟨M, k, none⟩ = some (.int .i64 ((Tot.outs n0 lim m k).getD k 0)) ∧ w2.frozen? ⟨M, k, none⟩ = false := by
 have hM : M < wr.heap.size := own_lt H.row rfl
 obtain ⟨gt3, V3, H3, A3, O3⟩ := T
 obtain ⟨U, hU⟩ := H.at_.bld
 have hc := lt_block H.at_.blk
 have hmt3 : (gt3 M).1 = 0 := by rw [A3 M hM]; exact H.mt
 have hrow2 := own_only H.row O3 (fun k' hk' => by simp [Value.ownBlock] at hk'; subst hk'; unfold Mine; rw [H.mt]; simp)
 have hct : CtAt w2 gt3 gb c bt bb cap (Tot.hT n2 lim hp2 fl2) B := by
  refine ⟨only_block H.at_.blk O3 (fun h => h H.at_.tc), by rw [A3 c hc]; exact H.at_.tc, H.at_.tc', ⟨V3, H3⟩, ⟨U, hU.only O3 (fun k hk hm => H.at_.dis k hm hk)⟩, fun k hk hm => ?_⟩
  have hlt : k < wr.heap.size := by
   rcases Nat.lt_or_ge k wr.heap.size with h | h
   ·exact h
   ·exact absurd (hU.fresh k h) hm
  refine H.at_.dis k ?_ hm
  unfold Mine at hk ⊢
  rwa [A3 k hlt] at hk
 have hsz := H.only.size
 have hcM : ¬ c = M := by
  intro e
  have h1 := H.at_.blk
  have h2 := hrow2.2
  rcases H.row.2 with ⟨h', _⟩ | ⟨g', cap', cur, h', _, hg, _⟩
  ·simp at h'
  ·simp at h'
   obtain ⟨rfl, rfl, rfl⟩ := h'
   rw [← e, h1] at hg
   simp at hg
 have ho : Only (fun i => i = M) w2 (w2.setCell ⟨M, k, none⟩ (.int .i64 z)) := Only.setCell (Only.refl (fun i => i = M) w2) (p := ⟨M, k, none⟩) (.inl rfl) _
 refine ⟨gt3, ⟨h2, hn2, hf2, hct.only ho (fun i hi e => by subst e; rcases hi with hi | hi; exact hi hmt3; exact hi H.mb) hcM, H.ag.trans A3 hsz, ?_, ?_, hmt3, H.mb, H.ge⟩, ?_, ?_⟩
 ·refine Only.setCell ?_ (.inr H.ge) _
  refine H.only.trans O3 (fun i hi => ?_)
  rcases Nat.lt_or_ge i w.heap.size with hlt | hge
  ·refine .inl (.inl ?_)
   unfold Mine at hi ⊢
   rwa [H.ag i hlt] at hi
  ·exact .inr hge
 ·have := (hrow2.stored k (.int .i64 z)).1
  rw [Tot.outs_succ hk, List.map_set, ← hz]
  simpa using this
 ·have := row_cell' hrow2 (i := k) (by rw [Tot.outs_len]; exact hk)
  exact this
 ·rcases hrow2.2 with ⟨h', _⟩ | ⟨g', cap', cur, h', _, hg, _⟩
  ·simp at h'
  ·simp at h'
   obtain ⟨rfl, rfl, rfl⟩ := h'
   exact free_block hg k
end
end Go.Proofs.YtjedgdamommgeaaGreat

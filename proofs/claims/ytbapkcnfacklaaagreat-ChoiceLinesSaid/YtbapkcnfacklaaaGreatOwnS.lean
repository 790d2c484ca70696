/- Slices of slices of ints of one's own. -/
import Derived.Test.YtbapkcnfacklaaaGreatBase
set_option linter.unusedVariables false
namespace Go.Proofs.YtbapkcnfacklaaaGreat
open Go.RowKit
structure OwnS (w0 w : World) (v : Value) (us : List Value) (css : List (List Int)) : Prop where
 row : w.ownsRow 0 35 1 v us.length us
 ints : AllInts w us css
 new : ∀ k, v.ownBlock = some k → w0.heap.size ≤ k
 apart : ∀ i, i < css.length → 0 < (css.getD i []).length → ∀ k, Value.blk (us.getD i nilS) = some k → v.ownBlock ≠ some k
theorem OwnS.intsS {w0 w : World} {v : Value} {us : List Value} {css : List (List Int)} (h : OwnS w0 w v us css) : IntsS w v css := ⟨us, Cells.of_own h.row, h.ints⟩
theorem OwnS.only0 {w0 w w' : World} {v : Value} {us : List Value} {css : List (List Int)} (h : OwnS w0 w v us css) (ho : Only (fun _ => False) w w') : OwnS w0 w' v us css :=
 ⟨own_only h.row ho (fun _ _ f => f), h.ints.only0 ho, h.new, h.apart⟩
theorem OwnS.snoc {w0 w w' : World} {v v' : Value} {us : List Value} {css : List (List Int)} (h : OwnS w0 w v us css) (hw : w0.heap.size ≤ w.heap.size) {u : Value} {f : List Int} (hu : Ints w u f) (hua : 0 < f.length → ∀ k, Value.blk u = some k → v.ownBlock ≠ some k)
  (s1 : w'.ownsRow 0 35 1 v' (us.length + 1) (us ++ [u])) (s2 : Only (fun k => v.ownBlock = some k) w w') (s3 : AppTo w v v' (us.length + 1)) : OwnS w0 w' v' (us ++ [u]) (css ++ [f]) := by
 have hl := h.ints.1
 have hold : ∀ i, i < css.length → Ints w' (us.getD i nilS) (css.getD i []) := fun i hi => (h.ints.2 i hi).only' s2 (fun hp b hb => h.apart i hi hp b hb)
 have hnew : Ints w' u f := hu.only' s2 hua
 have hall : AllInts w' (us ++ [u]) (css ++ [f]) := AllInts.snoc ⟨hl, hold⟩ hnew
 obtain ⟨g, cap, rfl, _, _, hg⟩ := s3
 refine ⟨by simpa using s1, hall, fun k hk => ?_, fun i hi hp k hk hF => ?_⟩
 ·simp [Value.ownBlock] at hk
  subst hk
  rcases hg with hg | hg
  ·exact h.new _ hg
  ·omega
 ·simp only [Value.ownBlock, Option.some.injEq] at hF
  subst hF
  by_cases hi' : i < css.length
  ·rw [getD_app_l _ _ _ (by omega)] at hk
   rw [getD_app_l _ _ _ hi'] at hp
   rcases hg with hg | hg
   ·exact h.apart i hi' hp _ hk hg
   ·have := (h.ints.2 i hi').lt hp hk; omega
  ·have : i = css.length := by simp at hi; omega
   subst this
   rw [getD_app_r _ _ _ (by omega), hl] at hk
   rw [getD_app_r _ _ _ (by omega)] at hp
   simp at hk hp
   rcases hg with hg | hg
   ·exact hua (by simpa using hp) _ hk hg
   ·have := hu.lt (by simpa using hp) hk; omega
theorem OwnS.nil (w0 w : World) : OwnS w0 w (.slice none 0 0) [] [] :=
 ⟨World.ownsRow_nil _ _ _ _, ⟨rfl, fun i hi => by simp at hi⟩, fun k hk => by simp [Value.ownBlock] at hk, fun i hi => by simp at hi⟩
theorem take_snocL (xs : List (List Int)) (k : Nat) (h : k < xs.length) : xs.take (k + 1) = xs.take k ++ [xs.getD k []] := by
 rw [List.take_succ_eq_append_getElem h]
 simp [List.getD_eq_getElem?_getD, h]
end Go.Proofs.YtbapkcnfacklaaaGreat

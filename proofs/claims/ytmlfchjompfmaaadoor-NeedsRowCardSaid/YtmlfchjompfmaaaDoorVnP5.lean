/- The ranks of the built package: plain. -/
import Derived.Test.YtmlfchjompfmaaaDoorVnP4
set_option linter.unusedVariables false
namespace Go.Proofs.YtmlfchjompfmaaaDoor
open Go.RowKit
open Vn (partB plt vlt cmpTo atP okP)
def nw (v u : Str) : Bool := decide (0 < cmpV u.toList v.toList)
theorem nw_iff {v u : Str} (hv : mayB v.toList = true) (hu : mayB u.toList = true) : nw v u = true ↔ vlt (cutB 46 v.toList) (cutB 46 u.toList) := by
 unfold nw
 rw [decide_eq_true_eq]
 exact cmpV_pos hu hv
def relOf (s : Str) : RelD := { version := s, old := false }
section
variable {vs : List Str}
theorem nw_self {v : Str} (hv : mayB v.toList = true) : nw v v = false := by
 cases h : nw v v with
 | false => rfl
 | true => exact absurd ((nw_iff hv hv).1 h) (Vn.vlt_irrefl _)
theorem rank_lt (hg : ∀ s ∈ vs, mayB s.toList = true) {v : Str} (hv : v ∈ vs) : cntB nw vs v < vs.length := by
 unfold cntB
 rcases Nat.lt_or_ge (vs.filter (nw v)).length vs.length with h | h
 ·exact h
 ·have e := (List.length_filter_eq_length_iff.1 (Nat.le_antisymm (List.length_filter_le _ _) h)) v hv
  rw [nw_self (hg v hv)] at e; cases e
theorem rank_anti (hg : ∀ s ∈ vs, mayB s.toList = true) {v u : Str} (hv : v ∈ vs) (hu : u ∈ vs) (h : nw v u = true) : cntB nw vs u < cntB nw vs v :=
 filter_lt (fun x hx hux => (nw_iff (hg v hv) (hg x hx)).2 (Vn.vlt_trans ((nw_iff (hg v hv) (hg u hu)).1 h) ((nw_iff (hg u hu) (hg x hx)).1 hux))) u hu (nw_self (hg u hu)) h
theorem rank_inj (hg : ∀ s ∈ vs, mayB s.toList = true) {v u : Str} (hv : v ∈ vs) (hu : u ∈ vs) (h : v ≠ u) : cntB nw vs v ≠ cntB nw vs u := by
 have hne : cutB 46 v.toList ≠ cutB 46 u.toList := fun e => h (toList_inj (cut_inj e))
 rcases vlt_total (may_parts (hg v hv)) (may_parts (hg u hu)) hne with g | g
 ·have := rank_anti hg hv hu ((nw_iff (hg v hv) (hg u hu)).2 g); omega
 ·have := rank_anti hg hu hv ((nw_iff (hg u hu) (hg v hv)).2 g); omega
theorem less_nw (hg : ∀ s ∈ vs, mayB s.toList = true) {v u : Str} (hv : v ∈ vs) (hu : u ∈ vs) (h : lessB v.toList u.toList = true) : nw v u = true :=
 (nw_iff (hg v hv) (hg u hu)).2 ((less_vlt (hg v hv) (hg u hu)).1 h)
theorem rank_cnt {p : PackD} (hp : p.rels = vs.map relOf) {v : Str} (hv : v ∈ vs) : rankV p v = (cntB nw vs v : Int) := by
 have ha : (vs.map relOf).any (fun r : RelD => decide (r.version = v)) = true := by
  rw [List.any_eq_true]
  exact ⟨relOf v, List.mem_map_of_mem hv, by simp [relOf]⟩
 unfold rankV cntB
 rw [hp]
 have h0 : 0 ≤ idxG (fun r : RelD => decide (r.version = v)) (vs.map relOf) := by
  unfold idxG
  rw [if_pos ha]
  omega
 rw [decide_eq_true h0, if_pos rfl, List.filter_map, List.length_map]
 rfl
end
end Go.Proofs.YtmlfchjompfmaaaDoor

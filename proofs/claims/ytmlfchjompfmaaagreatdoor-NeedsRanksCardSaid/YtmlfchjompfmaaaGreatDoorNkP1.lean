/- Ranks and what is preferred, as the document counts them. No program in sight. -/
import Derived.Test.YtmlfchjompfmaaaGreatDoorVnP4
import Derived.Test.YtmlfchjompfmaaaGreatDoorWv8
set_option linter.unusedVariables false
namespace Go.Proofs.YtmlfchjompfmaaaGreatDoor
open Go.RowKit
theorem less_cmp (a b : List UInt8) : lessB a b = decide (0 < cmpV b a) := by
 by_cases ha : mayB a = true
 ·by_cases hb : mayB b = true
  ·rw [Bool.eq_iff_iff, less_vlt ha hb, decide_eq_true_eq, cmpV_pos hb ha]
  ·unfold lessB cmpV; simp [ha, hb]
 ·by_cases hb : mayB b = true
  ·unfold lessB cmpV; simp [ha, hb]
  ·unfold lessB cmpV; simp [ha, hb]
theorem idx_any {α : Type} (q : α → Bool) (xs : List α) : decide (0 ≤ idxG q xs) = xs.any q := by
 unfold idxG
 cases h : xs.any q with
 | true => simp
 | false => simp
def rank10 (p : PackD) (v : Str) : Int := if (p.rels.any fun r => decide (r.version = v)) = true then ((p.rels.filter fun r => lessB v.toList r.version.toList).length : Int) else -1
theorem rank10_eq (p : PackD) (v : Str) : rankV p v = rank10 p v := by
 unfold rankV rank10
 rw [idx_any]
 have e : (fun r : RelD => lessB v.toList r.version.toList) = newerB v := by
  funext r
  rw [less_cmp]; rfl
 rw [e]
def prefNo (l : List Str) (name : Str) : Int := if 0 ≤ idxG (fun t => decide (t = name)) l then idxG (fun t => decide (t = name)) l else (l.length : Int)
def prefOf (l : List PrefD) (virtual name : Str) : Int := match l.find? fun f => decide (f.virtual = virtual) with
 | none => 0
 | some f => prefNo f.names name
theorem pref_hit {l : List PrefD} {i : Nat} {f : PrefD} {virtual name : Str} (hx : l[i]? = some f) (hf : f.virtual = virtual) (hn : ∀ y ∈ l.take i, y.virtual ≠ virtual) : prefOf l virtual name = prefNo f.names name := by
 have e : l.find? (fun f => decide (f.virtual = virtual)) = some f := by
  obtain ⟨hi, he⟩ := List.getElem?_eq_some_iff.1 hx
  rw [List.find?_eq_some_iff_append]
  refine ⟨decide_eq_true hf, l.take i, l.drop (i + 1), ?_, fun y hy => ?_⟩
  ·conv => lhs; rw [← List.take_append_drop i l]
   rw [List.drop_eq_getElem_cons hi, he]
  ·simp [hn y hy]
 unfold prefOf
 rw [e]
theorem pref_none {l : List PrefD} {virtual name : Str} (hn : ∀ y ∈ l, y.virtual ≠ virtual) : prefOf l virtual name = 0 := by
 have e : l.find? (fun f => decide (f.virtual = virtual)) = none := by
  rw [List.find?_eq_none]
  intro y hy
  simp [hn y hy]
 unfold prefOf
 rw [e]
theorem prefNo_hit {l : List Str} {i : Nat} {t : Str} {name : Str} (hx : l[i]? = some t) (ht : t = name) (hn : ∀ y ∈ l.take i, y ≠ name) : prefNo l name = i := by
 have e : idxG (fun t => decide (t = name)) l = i := idxG_hit hx (decide_eq_true ht) fun y hy => decide_eq_false (hn y hy)
 unfold prefNo
 rw [e, if_pos (by omega)]
theorem prefNo_none {l : List Str} {name : Str} (hn : ∀ y ∈ l, y ≠ name) : prefNo l name = l.length := by
 have e : idxG (fun t => decide (t = name)) l = -1 := idxG_none fun y hy => decide_eq_false (hn y hy)
 unfold prefNo
 rw [e, if_neg (by omega)]
end Go.Proofs.YtmlfchjompfmaaaGreatDoor

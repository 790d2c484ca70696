/- What may be needed, plain: names, what they may be, what is reached; the invariant of the search. -/
import Derived.Test.YtmlfchjompfmaaaGreatDoorRec1
set_option linter.unusedVariables false
namespace Go.Proofs.YtmlfchjompfmaaaGreatDoor
def idxG {α : Type} (p : α → Bool) (xs : List α) : Int := if xs.any p then (xs.findIdx p : Int) else -1
theorem idxG_hit {α : Type} {p : α → Bool} {xs : List α} {k : Nat} {x : α} (hk : xs[k]? = some x) (hp : p x = true) (hn : ∀ y ∈ xs.take k, p y = false) : idxG p xs = k := by
 obtain ⟨hlt, rfl⟩ := List.getElem?_eq_some_iff.1 hk
 unfold idxG
 rw [if_pos (List.any_eq_true.2 ⟨xs[k], List.getElem_mem hlt, hp⟩)]
 congr 1
 rw [List.findIdx_eq hlt]
 refine ⟨hp, fun j hj => hn _ ?_⟩
 rw [List.mem_take_iff_getElem]
 exact ⟨j, by omega, rfl⟩
theorem idxG_none {α : Type} {p : α → Bool} {xs : List α} (hn : ∀ y ∈ xs, p y = false) : idxG p xs = -1 := by
 unfold idxG
 rw [if_neg]
 rw [List.any_eq_true]
 rintro ⟨x, hx, hp⟩
 rw [hn x hx] at hp
 cases hp
theorem idxG_range {α : Type} (p : α → Bool) (xs : List α) : idxG p xs = -1 ∨ ∃ k : Nat, idxG p xs = k ∧ k < xs.length ∧ ∃ x, xs[k]? = some x ∧ p x = true := by
 unfold idxG
 split
 ·rename_i h
  have hl := List.findIdx_lt_length_of_exists (p := p) (xs := xs) (by simpa using h)
  exact .inr ⟨_, rfl, hl, _, List.getElem?_eq_getElem hl, List.findIdx_getElem⟩
 ·exact .inl rfl
def intsOf (l : List Nat) : List Int := l.map fun i : Nat => (i : Int)
def hasS (l : List Str) (s : Str) : Bool := l.any fun t => decide (t = s)
theorem hasS_iff {l : List Str} {s : Str} : hasS l s = true ↔ s ∈ l := by
 unfold hasS
 rw [List.any_eq_true]
 constructor
 ·rintro ⟨t, ht, h⟩
  rw [of_decide_eq_true h] at ht; exact ht
 ·intro h
  exact ⟨s, h, decide_eq_true rfl⟩
def RecD.find (x : RecD) (s : Str) : Int := idxG (fun p => decide (p.name = s)) x.packs
def RecD.pack (x : RecD) (i : Nat) : PackD := x.packs.getD i default
def RecD.provTo (x : RecD) (s : Str) (k : Nat) : List Nat := (List.range k).filter fun i => hasS (x.pack i).provides s
def RecD.provs (x : RecD) (s : Str) : List Nat := x.provTo s x.packs.length
def RecD.targets (x : RecD) (s : Str) : List Nat := if 0 ≤ x.find s then [(x.find s).toNat] else x.provs s
theorem RecD.provTo_succ (x : RecD) (s : Str) (k : Nat) : x.provTo s (k + 1) = if hasS (x.pack k).provides s = true then x.provTo s k ++ [k] else x.provTo s k := by
 unfold RecD.provTo
 rw [List.range_succ, List.filter_append]
 by_cases h : hasS (x.pack k).provides s = true <;> simp [h]
theorem RecD.find_lt (x : RecD) (s : Str) : x.find s < x.packs.length := by
 rcases idxG_range (fun p => decide (p.name = s)) x.packs with h | ⟨k, h, hk, _⟩
 ·unfold RecD.find; rw [h]; omega
 ·unfold RecD.find; rw [h]; omega
theorem RecD.targets_lt {x : RecD} {s : Str} {i : Nat} (h : i ∈ x.targets s) : i < x.packs.length := by
 unfold RecD.targets at h
 split at h
 ·have := x.find_lt s
  simp at h; omega
 ·unfold RecD.provs RecD.provTo at h
  simp at h; exact h.1
theorem RecD.targets_len (x : RecD) (s : Str) : (x.targets s).length ≤ x.packs.length := by
 unfold RecD.targets
 split
 ·have := x.find_lt s
  simp; omega
 ·unfold RecD.provs RecD.provTo
  have := List.length_filter_le (fun i => hasS (x.pack i).provides s) (List.range x.packs.length)
  simpa using this
inductive RecD.Reach (x : RecD) (names : List Str) : Nat → Prop where
 | root {s i} : s ∈ names → i ∈ x.targets s → Reach x names i
 | step {k d i} : Reach x names k → d ∈ (x.pack k).deps → i ∈ x.targets d.on.name → Reach x names i
theorem RecD.Reach.lt {x : RecD} {names : List Str} {i : Nat} (h : x.Reach names i) : i < x.packs.length := by
 cases h with
 | root _ h => exact targets_lt h
 | step _ _ h => exact targets_lt h
open Classical in
noncomputable def RecD.closure (x : RecD) (names : List Str) : List Nat := (List.range x.packs.length).filter fun i => decide (x.Reach names i)
theorem RecD.mem_closure {x : RecD} {names : List Str} {i : Nat} : i ∈ x.closure names ↔ x.Reach names i := by
 unfold RecD.closure
 rw [List.mem_filter]
 simp only [List.mem_range, decide_eq_true_eq]
 exact ⟨fun h => h.2, fun h => ⟨h.lt, h⟩⟩
theorem RecD.closure_sorted (x : RecD) (names : List Str) : (x.closure names).Pairwise (· < ·) := by
 unfold RecD.closure
 exact List.Pairwise.filter _ List.pairwise_lt_range
theorem RecD.closure_len (x : RecD) (names : List Str) : (x.closure names).length ≤ x.packs.length := by
 unfold RecD.closure
 have := List.length_filter_le (fun i => @decide (x.Reach names i) (Classical.propDecidable _)) (List.range x.packs.length)
 simpa using this
def PackD.names (p : PackD) : List Str := p.deps.map fun d => d.on.name
def Met (x : RecD) (roots : List Str) (ks : List Int) (s : Str) : Prop := s ∈ roots ∨ ∃ k : Nat, (k : Int) ∈ ks ∧ s ∈ (x.pack k).names
structure Srch (x : RecD) (roots : List Str) (ks : List Int) (A R : List Str) : Prop where
 keys : ∀ z ∈ ks, ∃ i : Nat, z = i ∧ x.Reach roots i
 names : ∀ s, s ∈ A ∨ s ∈ R → ∀ i ∈ x.targets s, x.Reach roots i
 done : ∀ s, Met x roots ks s → s ∈ A ∨ s ∈ R ∨ ∀ i ∈ x.targets s, (i : Int) ∈ ks
theorem Srch.start (x : RecD) (roots : List Str) : Srch x roots [] roots [] :=
 ⟨fun z hz => (by cases hz), fun s hs i hi => .root (by simpa using hs) hi, fun s hs => by
  rcases hs with h | ⟨k, h, _⟩
  ·exact .inl h
  ·cases h⟩
theorem Srch.pop {x : RecD} {roots : List Str} {ks : List Int} {A : List Str} {s : Str} (h : Srch x roots ks (s :: A) []) : Srch x roots ks A [s] :=
 ⟨h.keys, fun t ht => h.names t (by simp at ht ⊢; rcases ht with h | h; exact .inr h; exact .inl h), fun t ht => by
  have := h.done t ht
  simp at this ⊢
  rcases this with (h | h) | h
  ·exact .inr (.inl h)
  ·exact .inl h
  ·exact .inr (.inr h)⟩
theorem Srch.key {x : RecD} {roots : List Str} {ks ks' : List Int} {A R : List Str} {s : Str} {i : Nat} (h : Srch x roots ks A (R ++ [s])) (hi : i ∈ x.targets s) (hk : ∀ z, z ∈ ks' ↔ z ∈ ks ∨ z = i) : Srch x roots ks' A ((x.pack i).names ++ (R ++ [s])) := by
 have hr : x.Reach roots i := h.names s (.inr (by simp)) i hi
 refine ⟨fun z hz => ?_, fun t ht j hj => ?_, fun t ht => ?_⟩
 ·rcases (hk z).1 hz with hz | rfl
  ·exact h.keys z hz
  ·exact ⟨i, rfl, hr⟩
 ·rcases ht with ht | ht
  ·exact h.names t (.inl ht) j hj
  ·rcases List.mem_append.1 ht with ht | ht
   ·obtain ⟨d, hd, rfl⟩ := List.mem_map.1 ht
    exact .step hr hd hj
   ·exact h.names t (.inr ht) j hj
 ·have old : Met x roots ks t → t ∈ A ∨ t ∈ (x.pack i).names ++ (R ++ [s]) ∨ ∀ j ∈ x.targets t, (j : Int) ∈ ks' := fun hm => by
   rcases h.done t hm with h1 | h1 | h1
   ·exact .inl h1
   ·exact .inr (.inl (List.mem_append_right _ h1))
   ·exact .inr (.inr fun j hj => (hk _).2 (.inl (h1 j hj)))
  rcases ht with ht | ⟨k, hkk, ht⟩
  ·exact old (.inl ht)
  ·rcases (hk _).1 hkk with h2 | h2
   ·exact old (.inr ⟨k, h2, ht⟩)
   ·obtain rfl : k = i := by omega
    exact .inr (.inl (List.mem_append_left _ ht))
theorem Srch.push {x : RecD} {roots : List Str} {ks : List Int} {A R : List Str} {s : Str} (h : Srch x roots ks A (s :: R)) : Srch x roots ks (A ++ [s]) R :=
 ⟨h.keys, fun t ht => h.names t (by simp at ht ⊢; rcases ht with (h | h) | h; exact .inl h; exact .inr (.inl h); exact .inr (.inr h)), fun t ht => by
  have := h.done t ht
  simp at this ⊢
  rcases this with h | (h | h) | h
  ·exact .inl (.inl h)
  ·exact .inl (.inr h)
  ·exact .inr (.inl h)
  ·exact .inr (.inr h)⟩
theorem Srch.drop {x : RecD} {roots : List Str} {ks : List Int} {A : List Str} {s : Str} (h : Srch x roots ks A [s]) (hi : ∀ i ∈ x.targets s, (i : Int) ∈ ks) : Srch x roots ks A [] :=
 ⟨h.keys, fun t ht => h.names t (by simp at ht ⊢; exact .inl ht), fun t ht => by
  have := h.done t ht
  simp at this ⊢
  rcases this with h | rfl | h
  ·exact .inl h
  ·exact .inr hi
  ·exact .inr h⟩
theorem Srch.fin {x : RecD} {roots : List Str} {ks : List Int} (h : Srch x roots ks [] []) (z : Int) : z ∈ ks ↔ ∃ i : Nat, z = i ∧ i ∈ x.closure roots := by
 constructor
 ·intro hz
  obtain ⟨i, rfl, hi⟩ := h.keys z hz
  exact ⟨i, rfl, RecD.mem_closure.2 hi⟩
 ·rintro ⟨i, rfl, hi⟩
  have hr := RecD.mem_closure.1 hi
  clear hi
  induction hr with
  | root h1 h2 =>
   rcases h.done _ (.inl h1) with h3 | h3 | h3
   ·cases h3
   ·cases h3
   ·exact h3 _ h2
  | step _ h2 h3 ih =>
   rename_i k d i _
   rcases h.done d.on.name (.inr ⟨_, ih, List.mem_map.2 ⟨d, h2, rfl⟩⟩) with h4 | h4 | h4
   ·cases h4
   ·cases h4
   ·exact h4 _ h3
def RecD.pot (x : RecD) (ks : List Int) : Nat := ((List.range x.packs.length).map fun i : Nat => if (i : Int) ∈ ks then 0 else (x.pack i).deps.length).sum
theorem sum_map_point (f g : Nat → Nat) (i c : Nat) : ∀ l : List Nat, l.Nodup → i ∈ l → g i + c = f i → (∀ j ∈ l, j ≠ i → g j = f j) → (l.map g).sum + c = (l.map f).sum
 | [], _, h, _, _ => by cases h
 | a :: l, hn, hi, hc, ho => by
  rw [List.nodup_cons] at hn
  rcases List.mem_cons.1 hi with rfl | hi
  ·have : l.map g = l.map f := List.map_congr_left fun j hj => ho j (List.mem_cons_of_mem _ hj) fun e => hn.1 (e ▸ hj)
   simp only [List.map_cons, List.sum_cons, this]; omega
  ·have := sum_map_point f g i c l hn.2 hi hc fun j hj => ho j (List.mem_cons_of_mem _ hj)
   have h2 := ho a List.mem_cons_self fun e => hn.1 (e ▸ hi)
   simp only [List.map_cons, List.sum_cons, h2]; omega
theorem RecD.pot_key {x : RecD} {ks ks' : List Int} {i : Nat} (hi : i < x.packs.length) (hn : (i : Int) ∉ ks) (hk : ∀ z, z ∈ ks' ↔ z ∈ ks ∨ z = i) : x.pot ks' + (x.pack i).deps.length = x.pot ks := by
 unfold RecD.pot
 refine sum_map_point _ _ i _ _ List.nodup_range (List.mem_range.2 hi) ?_ fun j _ hj => ?_
 ·rw [if_pos ((hk _).2 (.inr rfl)), if_neg hn]; omega
 ·have : ((j : Int) ∈ ks') ↔ (j : Int) ∈ ks := by
   rw [hk]
   constructor
   ·rintro (h | h)
    ·exact h
    ·omega
   ·exact .inl
  by_cases h : (j : Int) ∈ ks
  ·rw [if_pos h, if_pos (this.2 h)]
  ·rw [if_neg h, if_neg (fun e => h (this.1 e))]
theorem RecD.pot_le {x : RecD} {M : Nat} (h : ∀ p ∈ x.packs, p.deps.length ≤ M) (ks : List Int) : x.pot ks ≤ x.packs.length * M := by
 have gen : ∀ l : List Nat, (∀ i ∈ l, i < x.packs.length) → (l.map fun i : Nat => if (i : Int) ∈ ks then 0 else (x.pack i).deps.length).sum ≤ l.length * M := by
  intro l
  induction l with
  | nil => intro _; simp
  | cons a l ih =>
   intro hl
   have h1 := ih fun i hi => hl i (List.mem_cons_of_mem _ hi)
   have h2 : (x.pack a).deps.length ≤ M := by
    have ha := hl a List.mem_cons_self
    unfold RecD.pack
    rw [List.getD_eq_getElem?_getD, List.getElem?_eq_getElem ha]
    exact h _ (List.getElem_mem ha)
   simp only [List.map_cons, List.sum_cons, List.length_cons, Nat.add_mul, Nat.one_mul]
   split <;> omega
 have := gen (List.range x.packs.length) fun i hi => List.mem_range.1 hi
 simpa [RecD.pot] using this
end Go.Proofs.YtmlfchjompfmaaaGreatDoor

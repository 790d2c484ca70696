/- What may be needed, by rounds: the document's way, plain: it ends with what is reached. -/
import Derived.Test.YtbapkcnfacklaaaGreatNd1
set_option linter.unusedVariables false
namespace Go.Proofs.YtbapkcnfacklaaaGreat
def askN (x : RecD) (names : List Str) (i : Nat) : Bool := names.any fun s => decide (i ∈ x.targets s)
def askP (x : RecD) (f : List Bool) (i : Nat) (k : Nat) : Bool := f.getD k false && askN x ((x.pack k).deps.map fun d => d.on.name) i
def askedD (x : RecD) (names : List Str) (f : List Bool) (i : Nat) : Bool := askN x names i || (List.range x.packs.length).any (askP x f i)
def stepD (x : RecD) (names : List Str) (f : List Bool) (i : Nat) : List Bool := if (!f.getD i false && askedD x names f i) = true then f.set i true else f
def roundTo (x : RecD) (names : List Str) (f : List Bool) (k : Nat) : List Bool := (List.range k).foldl (stepD x names) f
def roundsD (x : RecD) (names : List Str) : Nat → List Bool
 | 0 => List.replicate x.packs.length false
 | n + 1 => roundTo x names (roundsD x names n) x.packs.length
theorem roundTo_succ (x : RecD) (names : List Str) (f : List Bool) (k : Nat) : roundTo x names f (k + 1) = stepD x names (roundTo x names f k) k := by
 unfold roundTo
 rw [List.range_succ, List.foldl_append]
 rfl
theorem stepD_len (x : RecD) (names : List Str) (f : List Bool) (i : Nat) : (stepD x names f i).length = f.length := by
 unfold stepD; split <;> simp
theorem roundTo_len (x : RecD) (names : List Str) (f : List Bool) (k : Nat) : (roundTo x names f k).length = f.length := by
 induction k with
 | zero => rfl
 | succ k ih => rw [roundTo_succ, stepD_len, ih]
theorem roundsD_len (x : RecD) (names : List Str) (n : Nat) : (roundsD x names n).length = x.packs.length := by
 induction n with
 | zero => simp [roundsD]
 | succ n ih => rw [roundsD, roundTo_len, ih]
def LeB (f g : List Bool) : Prop := f.length = g.length ∧ ∀ i, f.getD i false = true → g.getD i false = true
theorem LeB.refl (f : List Bool) : LeB f f := ⟨rfl, fun _ h => h⟩
theorem LeB.trans {f g h : List Bool} (a : LeB f g) (b : LeB g h) : LeB f h := ⟨a.1.trans b.1, fun i hi => b.2 i (a.2 i hi)⟩
theorem LeB.anti {f g : List Bool} (a : LeB f g) (b : LeB g f) : f = g := by
 refine List.ext_getElem a.1 fun i h1 h2 => ?_
 have h3 := a.2 i
 have h4 := b.2 i
 simp only [List.getD_eq_getElem?_getD, List.getElem?_eq_getElem h1, List.getElem?_eq_getElem h2, Option.getD_some] at h3 h4
 cases hf : f[i] <;> cases hg : g[i] <;> simp_all
theorem getD_set {f : List Bool} {i j : Nat} (hi : i < f.length) : (f.set i true).getD j false = if j = i then true else f.getD j false := by
 simp only [List.getD_eq_getElem?_getD, List.getElem?_set]
 by_cases h : i = j
 ·subst h; simp [hi]
 ·rw [if_neg h, if_neg (fun e => h e.symm)]
theorem stepD_le (x : RecD) (names : List Str) (f : List Bool) (i : Nat) : LeB f (stepD x names f i) := by
 unfold stepD
 split
 ·refine ⟨by simp, fun j hj => ?_⟩
  by_cases hi : i < f.length
  ·rw [getD_set hi]; split
   ·rfl
   ·exact hj
  ·rw [List.set_eq_of_length_le (by omega)]; exact hj
 ·exact LeB.refl f
theorem roundTo_le (x : RecD) (names : List Str) (f : List Bool) (j k : Nat) (h : j ≤ k) : LeB (roundTo x names f j) (roundTo x names f k) := by
 induction k with
 | zero =>
  obtain rfl : j = 0 := by omega
  exact LeB.refl _
 | succ k ih =>
  by_cases hj : j = k + 1
  ·subst hj; exact LeB.refl _
  ·rw [roundTo_succ]; exact (ih (by omega)).trans (stepD_le _ _ _ _)
def cntB (f : List Bool) : Nat := f.countP id
theorem cntB_lt : ∀ {f g : List Bool}, LeB f g → f ≠ g → cntB f < cntB g
 | [], [], _, h => absurd rfl h
 | [], b :: g, h, _ => by have := h.1; simp at this
 | a :: f, [], h, _ => by have := h.1; simp at this
 | a :: f, b :: g, h, hn => by
  have ht : LeB f g := ⟨by simpa using h.1, fun i hi => by have := h.2 (i + 1); simp only [List.getD_cons_succ] at this; exact this hi⟩
  have hd : a = true → b = true := by have := h.2 0; simpa using this
  unfold cntB
  rw [List.countP_cons, List.countP_cons]
  by_cases hfg : f = g
  ·subst hfg
   cases a <;> cases b <;> simp_all
  ·have := cntB_lt ht hfg
   unfold cntB at this
   cases a <;> cases b <;> simp_all <;> omega
def Shut (x : RecD) (names : List Str) (f : List Bool) : Prop := roundTo x names f x.packs.length = f
theorem Shut.asked {x : RecD} {names : List Str} {f : List Bool} (h : Shut x names f) (hl : f.length = x.packs.length) {i : Nat} (hi : i < x.packs.length) (ha : askedD x names f i = true) : f.getD i false = true := by
 have h0 : LeB f (roundTo x names f i) := roundTo_le x names f 0 i (by omega)
 have h1 : LeB (roundTo x names f i) f := by
  have := roundTo_le x names f i _ (Nat.le_of_lt hi)
  rw [h] at this; exact this
 have e1 := h1.anti h0
 have h2 : LeB (roundTo x names f (i + 1)) f := by
  have := roundTo_le x names f (i + 1) _ hi
  rw [h] at this; exact this
 rw [roundTo_succ, e1] at h2
 by_cases hf : f.getD i false = true
 ·exact hf
 ·refine h2.2 i ?_
  unfold stepD
  rw [if_pos (by rw [ha]; simp only [Bool.not_eq_true] at hf; rw [hf]; rfl), getD_set (by omega), if_pos rfl]
theorem rounds_shut (x : RecD) (names : List Str) (n : Nat) : Shut x names (roundsD x names n) ∨ n ≤ cntB (roundsD x names n) := by
 induction n with
 | zero => exact .inr (Nat.zero_le _)
 | succ n ih =>
  rcases ih with h | h
  ·refine .inl ?_
   have : roundsD x names (n + 1) = roundsD x names n := h
   rw [this]; exact h
  ·by_cases hs : roundsD x names (n + 1) = roundsD x names n
   ·refine .inl ?_
    rw [hs]; exact hs
   ·refine .inr ?_
    have := cntB_lt (roundTo_le x names (roundsD x names n) 0 x.packs.length (Nat.zero_le _)) (fun e => hs e.symm)
    have h2 : cntB (roundTo x names (roundsD x names n) 0) = cntB (roundsD x names n) := rfl
    rw [h2] at this
    have h3 : cntB (roundTo x names (roundsD x names n) x.packs.length) = cntB (roundsD x names (n + 1)) := rfl
    rw [h3] at this
    omega
theorem rounds_shut_all (x : RecD) (names : List Str) : Shut x names (roundsD x names (x.packs.length + 1)) := by
 rcases rounds_shut x names (x.packs.length + 1) with h | h
 ·exact h
 ·exfalso
  have : cntB (roundsD x names (x.packs.length + 1)) ≤ (roundsD x names (x.packs.length + 1)).length := List.countP_le_length
  rw [roundsD_len] at this
  omega
def SoundB (x : RecD) (names : List Str) (f : List Bool) : Prop := ∀ i, f.getD i false = true → x.Reach names i
theorem askN_iff {x : RecD} {names : List Str} {i : Nat} : askN x names i = true ↔ ∃ s ∈ names, i ∈ x.targets s := by
 unfold askN
 rw [List.any_eq_true]
 simp only [decide_eq_true_eq]
theorem asked_reach {x : RecD} {names : List Str} {f : List Bool} (hs : SoundB x names f) {i : Nat} (h : askedD x names f i = true) : x.Reach names i := by
 unfold askedD at h
 rw [Bool.or_eq_true] at h
 rcases h with h | h
 ·obtain ⟨s, h1, h2⟩ := askN_iff.1 h
  exact .root h1 h2
 ·obtain ⟨k, hk, h2⟩ := List.any_eq_true.1 h
  unfold askP at h2
  rw [Bool.and_eq_true] at h2
  obtain ⟨s, h3, h4⟩ := askN_iff.1 h2.2
  obtain ⟨d, hd, rfl⟩ := List.mem_map.1 h3
  exact .step (hs k h2.1) hd h4
theorem stepD_sound {x : RecD} {names : List Str} {f : List Bool} (hs : SoundB x names f) (i : Nat) : SoundB x names (stepD x names f i) := by
 unfold stepD
 split
 ·rename_i h
  rw [Bool.and_eq_true] at h
  intro j hj
  by_cases hi : i < f.length
  ·rw [getD_set hi] at hj
   split at hj
   ·next e => subst e; exact asked_reach hs h.2
   ·exact hs j hj
  ·rw [List.set_eq_of_length_le (by omega)] at hj; exact hs j hj
 ·exact hs
theorem roundTo_sound {x : RecD} {names : List Str} {f : List Bool} (hs : SoundB x names f) (k : Nat) : SoundB x names (roundTo x names f k) := by
 induction k with
 | zero => exact hs
 | succ k ih => rw [roundTo_succ]; exact stepD_sound ih k
theorem rounds_sound (x : RecD) (names : List Str) (n : Nat) : SoundB x names (roundsD x names n) := by
 induction n with
 | zero =>
  intro i hi
  exfalso
  simp only [roundsD, List.getD_eq_getElem?_getD, List.getElem?_replicate] at hi
  split at hi <;> cases hi
 | succ n ih => exact roundTo_sound ih _
theorem rounds_reach (x : RecD) (names : List Str) (i : Nat) : (roundsD x names (x.packs.length + 1)).getD i false = true ↔ x.Reach names i := by
 refine ⟨rounds_sound x names _ i, fun h => ?_⟩
 have hs := rounds_shut_all x names
 have hl := roundsD_len x names (x.packs.length + 1)
 generalize roundsD x names (x.packs.length + 1) = f at hs hl
 induction h with
 | root h1 h2 =>
  refine hs.asked hl (RecD.targets_lt h2) ?_
  unfold askedD
  rw [Bool.or_eq_true]
  exact .inl (askN_iff.2 ⟨_, h1, h2⟩)
 | step h1 h2 h3 ih =>
  refine hs.asked hl (RecD.targets_lt h3) ?_
  unfold askedD
  rw [Bool.or_eq_true]
  refine .inr (List.any_eq_true.2 ⟨_, List.mem_range.2 (h1.lt), ?_⟩)
  unfold askP
  rw [Bool.and_eq_true]
  exact ⟨ih, askN_iff.2 ⟨_, List.mem_map.2 ⟨_, h2, rfl⟩, h3⟩⟩
def inTo (f : List Bool) (k : Nat) : List Nat := (List.range k).filter fun i => f.getD i false
theorem inTo_succ (f : List Bool) (k : Nat) : inTo f (k + 1) = if f.getD k false = true then inTo f k ++ [k] else inTo f k := by
 unfold inTo
 rw [List.range_succ, List.filter_append]
 by_cases h : f.getD k false = true
 ·rw [if_pos h]; simp only [List.filter_cons, h, if_true, List.filter_nil]
 ·rw [if_neg h]; simp only [List.filter_cons, if_neg h, List.filter_nil, List.append_nil]
theorem rounds_closure (x : RecD) (names : List Str) : inTo (roundsD x names (x.packs.length + 1)) x.packs.length = x.closure names := by
 unfold inTo RecD.closure
 refine List.filter_congr fun i _ => ?_
 rw [Bool.eq_iff_iff, rounds_reach]
 simp
end Go.Proofs.YtbapkcnfacklaaaGreat

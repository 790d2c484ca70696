/- PropP1 PropP2 PropP3 PropP4 PropP5 PropP6 PropP7 PropP8, in one text. -/
import Derived.Test.YtjedgdamommgeaaGreatPrA
set_option linter.unusedVariables false
namespace Go.Proofs.YtjedgdamommgeaaGreat
namespace Tr
open Cnf
theorem setW_wt {T : Trail} {p : Nat} (hp : p < T.watch.length) (l : List Nat) (q : Nat) : (T.setW p l).wt q = if q = p then l else T.wt q := by
 unfold Trail.setW Trail.wt
 by_cases e : q = p
 ·subst e; rw [if_pos rfl]; exact getD_set1 hp _ _
 ·rw [if_neg e]; exact getD_set2 (fun h => e h.symm) _ _
theorem setC_cl {T : Trail} {k : Nat} (hk : k < T.cls.length) (c : List Int) (m : Nat) : (T.setC k c).cl m = if m = k then c else T.cl m := by
 unfold Trail.setC Trail.cl
 by_cases e : m = k
 ·subst e; rw [if_pos rfl]; exact getD_set1 hk _ _
 ·rw [if_neg e]; exact getD_set2 (fun h => e h.symm) _ _
theorem place_ne {x y : Int} (hx : x ≠ 0) (hy : y ≠ 0) (h : x ≠ y) : place x ≠ place y := fun e => h (Rup.place_inj hx hy e)
theorem good_ne {n : Nat} {c : List Int} (h : Up.Good n c) {i j : Nat} (hi : i < c.length) (hj : j < c.length) (e : i ≠ j) : (c.getD i 0).natAbs ≠ (c.getD j 0).natAbs := by
 have hP := List.pairwise_iff_getElem.1 (List.pairwise_map.1 h.nod)
 have e1 : c.getD i 0 = c[i] := by simp [List.getD_eq_getElem?_getD, hi]
 have e2 : c.getD j 0 = c[j] := by simp [List.getD_eq_getElem?_getD, hj]
 rw [e1, e2]
 rcases Nat.lt_or_ge i j with h' | h'
 ·exact hP i j hi hj h'
 ·exact fun e' => hP j i hj hi (by omega) e'.symm
theorem good_perm {n : Nat} {c d : List Int} (h : Up.Good n c) (hp : d.Perm c) : Up.Good n d :=
 ⟨fun x hx => h.lit x (hp.mem_iff.1 hx), (hp.map _).nodup_iff.2 h.nod⟩
theorem swapL_get (c : List Int) {i j : Nat} (hi : i < c.length) (hj : j < c.length) (m : Nat) : (swapL c i j).getD m 0 = if m = j then c.getD i 0 else if m = i then c.getD j 0 else c.getD m 0 := by
 unfold swapL
 by_cases e : m = j
 ·subst e; rw [if_pos rfl, getD_set1 (by simpa using hj)]
 ·rw [if_neg e, getD_set2 (fun h => e h.symm)]
  by_cases e2 : m = i
  ·subst e2; rw [if_pos rfl, getD_set1 hi]
  ·rw [if_neg e2, getD_set2 (fun h => e2 h.symm)]
theorem swapL_perm (c : List Int) {i j : Nat} (hi : i < c.length) (hj : j < c.length) : (swapL c i j).Perm c := by
 have e1 : c.getD j 0 = c[j] := by simp [List.getD_eq_getElem?_getD, hj]
 have e2 : c.getD i 0 = c[i] := by simp [List.getD_eq_getElem?_getD, hi]
 unfold swapL
 rw [e1, e2]
 rcases Nat.lt_trichotomy i j with h | h | h
 ·exact List.set_set_perm hi hj
 ·subst h; simp
 ·rw [List.set_comm _ _ (by omega)]
  exact List.set_set_perm hj hi
theorem turn_perm (l : Int) (c : List Int) : (turn l c).Perm c := by
 unfold turn
 split
 ·rename_i h; exact swapL_perm c (by omega) h.1
 ·exact List.Perm.refl _
theorem turn_len (l : Int) (c : List Int) : (turn l c).length = c.length := (turn_perm l c).length_eq
theorem Ok.setC {T : Trail} (o : Ok T) {k : Nat} {c : List Int} (hc : Up.Good T.n c) : Ok (T.setC k c) := by
 refine ⟨o.n, by simp [Trail.setC, o.gl], o.wl, fun d hd => ?_, by simpa [Trail.setC] using o.cb, o.good, by simpa [Trail.setC] using o.sm, o.next, o.lev, o.lin, o.rea⟩
 rcases List.mem_or_eq_of_mem_set hd with h | h
 ·exact o.cls d h
 ·rw [h]; exact hc
theorem Ok.setW {T : Trail} (o : Ok T) (p : Nat) (l : List Nat) : Ok (T.setW p l) :=
 ⟨o.n, o.gl, by simp [Trail.setW, o.wl], o.cls, o.cb, o.good, o.sm, o.next, o.lev, o.lin, o.rea⟩
theorem Wat.of {T U : Trail} (h : Wat T) (hl : U.cls.length = T.cls.length) (hg : U.gone = T.gone) (hn : ∀ p, (U.wt p).Nodup)
  (hm : ∀ p k, k ∈ U.wt p ↔ (k ∈ T.wt p ∧ U.cl k = T.cl k) ∨ (k < T.cls.length ∧ T.gone.getD k true = false ∧ U.cl k ≠ T.cl k ∧ ∃ i, i < 2 ∧ i < (U.cl k).length ∧ place ((U.cl k).getD i 0) = p)) : Wat U := by
 refine ⟨hn, fun p k hk => ?_, fun k hk hgk i hi hi2 => ?_⟩
 ·rcases (hm p k).1 hk with ⟨h1, h2⟩ | ⟨h1, h2, h3, h4⟩
  ·have := h.snd p k h1
   rw [hl, hg, h2]; exact this
  ·rw [hl, hg]; exact ⟨h1, h2, h4⟩
 ·rw [hl] at hk
  rw [hg] at hgk
  rw [hm]
  by_cases e : U.cl k = T.cl k
  ·refine .inl ⟨?_, e⟩
   rw [e] at hi2 ⊢
   exact h.cpl k hk hgk i hi hi2
  ·exact .inr ⟨hk, hgk, e, i, hi, hi2, rfl⟩
theorem Wat.turn {T : Trail} (h : Wat T) {k : Nat} (hk : k < T.cls.length) (l : Int) : Wat (T.setC k (Tr.turn l (T.cl k))) := by
 have hcl := setC_cl hk (Tr.turn l (T.cl k))
 have key : ∀ p, (∃ i, i < 2 ∧ i < (Tr.turn l (T.cl k)).length ∧ place ((Tr.turn l (T.cl k)).getD i 0) = p) ↔ ∃ i, i < 2 ∧ i < (T.cl k).length ∧ place ((T.cl k).getD i 0) = p := by
  intro p
  unfold Tr.turn
  by_cases c : 1 < (T.cl k).length ∧ (T.cl k).getD 0 0 = l
  ·rw [if_pos c]
   have hg := swapL_get (T.cl k) (i := 0) (j := 1) (by omega) c.1
   rw [swapL_len]
   constructor
   ·rintro ⟨i, h1, h2, h3⟩
    rw [hg] at h3
    match i, h1 with
    | 0, _ => exact ⟨1, by omega, c.1, by simpa using h3⟩
    | 1, _ => exact ⟨0, by omega, by omega, by simpa using h3⟩
   ·rintro ⟨i, h1, h2, h3⟩
    match i, h1 with
    | 0, _ => exact ⟨1, by omega, c.1, by rw [hg]; simpa using h3⟩
    | 1, _ => exact ⟨0, by omega, by omega, by rw [hg]; simpa using h3⟩
  ·rw [if_neg c]
 refine h.of (by simp [Trail.setC]) rfl h.nd (fun p m => ?_)
 show m ∈ T.wt p ↔ _
 rw [hcl]
 by_cases e : m = k
 ·subst e
  rw [if_pos rfl]
  by_cases e2 : Tr.turn l (T.cl m) = T.cl m
  ·simp [e2]
  ·constructor
   ·intro hm
    have := h.snd p m hm
    exact .inr ⟨this.1, this.2.1, e2, (key p).2 this.2.2⟩
   ·rintro (⟨h1, _⟩ | ⟨h1, h2, _, h4⟩)
    ·exact h1
    ·obtain ⟨i, h5, h6, h7⟩ := (key p).1 h4
     rw [← h7]; exact h.cpl m h1 h2 i h5 h6
 ·rw [if_neg e]; simp
theorem turn_at {n : Nat} {l : Int} {c : List Int} (h : Up.Good n c) (h1 : 1 < c.length) (hl : ∃ i, i < 2 ∧ i < c.length ∧ c.getD i 0 = l) :
  (turn l c).getD 1 0 = l ∧ (∀ j, 2 ≤ j → (turn l c).getD j 0 = c.getD j 0) ∧ (turn l c).getD 0 0 ≠ l ∧ (∀ x, (∃ i, i < 2 ∧ i < c.length ∧ c.getD i 0 = x) ↔ x = l ∨ x = (turn l c).getD 0 0) := by
 have hne := good_ne h (i := 0) (j := 1) (by omega) h1 (by decide)
 unfold turn
 by_cases e0 : c.getD 0 0 = l
 ·rw [if_pos ⟨h1, e0⟩]
  have hg := swapL_get c (i := 0) (j := 1) (by omega) h1
  refine ⟨by rw [hg]; simpa using e0, fun j hj => by rw [hg, if_neg (by omega), if_neg (by omega)], ?_, fun x => ?_⟩
  ·rw [hg]; simp only [Nat.zero_ne_one, if_false, if_true]
   intro e; rw [e0, e] at hne; exact hne rfl
  ·rw [hg]; simp only [Nat.zero_ne_one, if_false, if_true]
   constructor
   ·rintro ⟨i, hi, _, rfl⟩
    match i, hi with
    | 0, _ => exact .inl e0
    | 1, _ => exact .inr rfl
   ·rintro (rfl | rfl)
    ·exact ⟨0, by omega, by omega, e0⟩
    ·exact ⟨1, by omega, h1, rfl⟩
 ·rw [if_neg (fun h => e0 h.2)]
  have e1 : c.getD 1 0 = l := by
   obtain ⟨i, hi, _, h3⟩ := hl
   match i, hi with
   | 0, _ => exact absurd h3 e0
   | 1, _ => exact h3
  refine ⟨e1, fun _ _ => rfl, e0, fun x => ?_⟩
  constructor
  ·rintro ⟨i, hi, _, rfl⟩
   match i, hi with
   | 0, _ => exact .inr rfl
   | 1, _ => exact .inl e1
  ·rintro (rfl | rfl)
   ·exact ⟨1, by omega, h1, e1⟩
   ·exact ⟨0, by omega, by omega, rfl⟩
theorem Wat.move {T : Trail} (o : Ok T) {l : Int} (hl : l ≠ 0 ∧ l.natAbs ≤ T.n) {kept r : List Nat} {k j : Nat} (hk : k < T.cls.length) (h : Wat (T.setW (place l) (kept ++ k :: r))) (h1 : 1 < (T.cl k).length) (j2 : 2 ≤ j) (jl : j < (T.cl k).length) :
  Wat (((T.setC k (Tr.turn l (T.cl k))).moveTo k j).setW (place l) (kept ++ r)) := by
 have hpl : place l < T.watch.length := by rw [o.wl]; exact Rup.place_lt hl
 have hgc := o.cl hk
 have hwt : ∀ q, (T.setW (place l) (kept ++ k :: r)).wt q = if q = place l then kept ++ k :: r else T.wt q := setW_wt hpl _
 have hin : k ∈ (T.setW (place l) (kept ++ k :: r)).wt (place l) := by rw [hwt, if_pos rfl]; simp
 obtain ⟨-, hgk, i0, i1, i2, i3⟩ := h.snd _ _ hin
 have hi3 : (T.cl k).getD i0 0 = l := Rup.place_inj (hgc.lit _ (getD_mem' 0 i2)).1 hl.1 i3
 obtain ⟨t1, tj, t0, tx⟩ := turn_at hgc h1 ⟨i0, i1, i2, hi3⟩
 obtain ⟨d, hd⟩ : ∃ d, Tr.turn l (T.cl k) = d := ⟨_, rfl⟩
 have hdl : d.length = (T.cl k).length := by rw [← hd]; exact turn_len l _
 have hgd : Up.Good T.n d := by rw [← hd]; exact good_perm hgc (turn_perm l _)
 rw [hd] at t1 tj t0 tx ⊢
 have hs := swapL_get d (i := 1) (j := j) (by omega) (by omega)
 have hU1 : (T.setC k d).cl k = d := by rw [setC_cl hk, if_pos rfl]
 have hx : (swapL ((T.setC k d).cl k) 1 j).getD 1 0 = d.getD j 0 := by rw [hU1, hs, if_neg (by omega), if_pos rfl]
 obtain ⟨q, hq⟩ : ∃ q, place (d.getD j 0) = q := ⟨_, rfl⟩
 have hdj := hgd.lit _ (getD_mem' 0 (show j < d.length by omega))
 have hd0 := hgd.lit _ (getD_mem' 0 (show 0 < d.length by omega))
 have qne : q ≠ place l := by
  rw [← hq, ← t1]
  exact place_ne hdj.1 (by rw [t1]; exact hl.1) (fun e => good_ne hgd (show j < d.length by omega) (show 1 < d.length by omega) (by omega) (by rw [e]))
 have qn0 : q ≠ place (d.getD 0 0) := by
  rw [← hq]
  exact place_ne hdj.1 hd0.1 (fun e => good_ne hgd (show j < d.length by omega) (show 0 < d.length by omega) (by omega) (by rw [e]))
 have pn0 : place l ≠ place (d.getD 0 0) := place_ne hl.1 hd0.1 (fun e => t0 e.symm)
 have hql : q < T.watch.length := by rw [o.wl, ← hq]; exact Rup.place_lt hdj
 have hwt2 : ∀ p, (((T.setC k d).moveTo k j).setW (place l) (kept ++ r)).wt p = if p = place l then kept ++ r else if p = q then T.wt q ++ [k] else T.wt p := by
  intro p
  rw [setW_wt (by unfold Trail.moveTo; simpa [Trail.setC] using hpl)]
  by_cases e : p = place l
  ·rw [if_pos e, if_pos e]
  ·rw [if_neg e, if_neg e]
   unfold Trail.moveTo Trail.wt
   simp only [hx, hq]
   by_cases e2 : p = q
   ·subst e2; rw [if_pos rfl, getD_set1 (by simpa [Trail.setC] using hql)]; rfl
   ·rw [if_neg e2, getD_set2 (fun h => e2 h.symm)]; rfl
 have hcl2 : ∀ m, (((T.setC k d).moveTo k j).setW (place l) (kept ++ r)).cl m = if m = k then swapL d 1 j else T.cl m := by
  intro m
  show ((T.setC k d).moveTo k j).cl m = _
  unfold Trail.moveTo Trail.cl
  by_cases e : m = k
  ·subst e
   rw [if_pos rfl, getD_set1 (by simpa [Trail.setC] using hk)]
   rw [show (T.setC m d).cls.getD m [] = (T.setC m d).cl m from rfl, hU1]
  ·rw [if_neg e, getD_set2 (fun h => e h.symm)]
   simp only [Trail.setC]
   rw [getD_set2 (fun h => e h.symm)]
 have hnd := h.nd (place l)
 rw [hwt, if_pos rfl] at hnd
 have hnk : k ∉ kept ++ r := by
  rw [List.nodup_append] at hnd
  intro hm
  rcases List.mem_append.1 hm with hm | hm
  ·exact hnd.2.2 k hm k List.mem_cons_self rfl
  ·exact (List.nodup_cons.1 hnd.2.1).1 hm
 have hkq : k ∉ T.wt q := by
  intro hm
  have hm2 : k ∈ (T.setW (place l) (kept ++ k :: r)).wt q := by rw [hwt, if_neg qne]; exact hm
  obtain ⟨-, -, i, h5, h6, h7⟩ := h.snd _ _ hm2
  have hxx := (tx ((T.cl k).getD i 0)).1 ⟨i, h5, h6, rfl⟩
  have h7' : place ((T.cl k).getD i 0) = q := h7
  rcases hxx with e | e
  ·rw [e] at h7'; exact qne h7'.symm
  ·rw [e] at h7'; exact qn0 h7'.symm
 refine h.of (by simp [Trail.setW, Trail.moveTo, Trail.setC]) rfl (fun p => ?_) (fun p m => ?_)
 ·rw [hwt2]
  split
  ·exact (List.Sublist.append_left (List.sublist_cons_self k r) kept).nodup hnd
  ·rename_i e1
   split
   ·have := h.nd q
    rw [hwt, if_neg qne] at this
    rw [List.nodup_append]
    exact ⟨this, by simp, fun a ha b hb e => by simp at hb; subst hb; subst e; exact hkq ha⟩
   ·have := h.nd p
    rw [hwt, if_neg e1] at this
    exact this
 ·rw [hwt2, hcl2, hwt]
  show _ ↔ (_ ∧ _ = T.cl m) ∨ (m < T.cls.length ∧ T.gone.getD m true = false ∧ _ ≠ T.cl m ∧ _)
  by_cases e : m = k
  ·subst e
   rw [if_pos rfl]
   have hne : swapL d 1 j ≠ T.cl m := by
    intro e
    have h8 : (swapL d 1 j).getD 1 0 = (T.cl m).getD 1 0 := by rw [e]
    rw [hs, if_neg (by omega), if_pos rfl, tj j j2] at h8
    exact good_ne hgc jl h1 (by omega) (by rw [h8])
   have hr : (∃ i, i < 2 ∧ i < (swapL d 1 j).length ∧ place ((swapL d 1 j).getD i 0) = p) ↔ p = place (d.getD 0 0) ∨ p = q := by
    rw [swapL_len]
    constructor
    ·rintro ⟨i, h5, _, h7⟩
     match i, h5 with
     | 0, _ => rw [hs, if_neg (by omega), if_neg (by omega)] at h7; exact .inl h7.symm
     | 1, _ => rw [hs, if_neg (by omega), if_pos rfl, hq] at h7; exact .inr h7.symm
    ·rintro (e | e)
     ·exact ⟨0, by omega, by omega, by rw [hs, if_neg (by omega), if_neg (by omega)]; exact e.symm⟩
     ·exact ⟨1, by omega, by omega, by rw [hs, if_neg (by omega), if_pos rfl, hq]; exact e.symm⟩
   rw [hr]
   by_cases e1 : p = place l
   ·rw [if_pos e1]
    constructor
    ·intro hm; exact absurd hm hnk
    ·rintro (⟨_, h5⟩ | ⟨_, _, _, h5 | h5⟩)
     ·exact absurd h5 hne
     ·exact absurd (e1.symm.trans h5) pn0
     ·exact absurd (h5.symm.trans e1) qne
   ·rw [if_neg e1]
    by_cases e2 : p = q
    ·rw [if_pos e2]
     exact ⟨fun _ => .inr ⟨hk, hgk, hne, .inr e2⟩, fun _ => by simp⟩
    ·rw [if_neg e2]
     constructor
     ·intro hm
      have hm2 : m ∈ (T.setW (place l) (kept ++ m :: r)).wt p := by rw [hwt, if_neg e1]; exact hm
      obtain ⟨-, -, i, h5, h6, h7⟩ := h.snd _ _ hm2
      refine .inr ⟨hk, hgk, hne, .inl ?_⟩
      have h7' : place ((T.cl m).getD i 0) = p := h7
      rcases (tx ((T.cl m).getD i 0)).1 ⟨i, h5, h6, rfl⟩ with e | e
      ·rw [e] at h7'; exact absurd h7'.symm e1
      ·rw [e] at h7'; exact h7'.symm
     ·rintro (⟨_, h5⟩ | ⟨_, _, _, h5 | h5⟩)
      ·exact absurd h5 hne
      ·obtain ⟨i, h6, h7, h8⟩ := (tx (d.getD 0 0)).2 (.inr rfl)
       have := h.cpl m hk hgk i h6 h7
       have e9 : place (((T.setW (place l) (kept ++ m :: r)).cl m).getD i 0) = p := by
        show place ((T.cl m).getD i 0) = p
        rw [h8]; exact h5.symm
       rw [e9, hwt, if_neg e1] at this
       exact this
      ·exact absurd h5 e2
  ·rw [if_neg e]
   have : (m < T.cls.length ∧ T.gone.getD m true = false ∧ T.cl m ≠ T.cl m ∧ ∃ i, i < 2 ∧ i < (T.cl m).length ∧ place ((T.cl m).getD i 0) = p) ↔ False := ⟨fun h => h.2.2.1 rfl, False.elim⟩
   rw [this, or_false, and_iff_left rfl]
   by_cases e1 : p = place l
   ·rw [if_pos e1, if_pos e1]; simp [e]
   ·rw [if_neg e1, if_neg e1]
    by_cases e2 : p = q
    ·rw [if_pos e2, e2]; simp [e]
    ·rw [if_neg e2]
end Tr
namespace Tr
open Cnf
def Trail.live (T : Trail) (k : Nat) : Prop := k < T.cls.length ∧ T.gone.getD k true = false
structure Wk (S c : List Int) (n f : Nat) : Prop where
 two : 2 ≤ c.length
 a : -(c.getD 0 0) ∈ S.take n → c.getD 1 0 ∈ S.take f
 b : -(c.getD 1 0) ∈ S.take n → c.getD 0 0 ∈ S.take f
def Trail.ent (T : Trail) (i : Nat) : Int × Nat × Int := T.ents.getD i (0, 0, 0)
structure Cause (S c : List Int) (x : Int) (i : Nat) : Prop where
 mem : x ∈ c
 oth : ∀ y ∈ c, y ≠ x → -y ∈ S.take i
structure Inv (T : Trail) : Prop where
 ok : Ok T
 wat : Wat T
 top : ∀ k, T.live k → k ∉ T.short → Wk T.lits (T.cl k) T.next T.ents.length ∨ ((T.cl k).length = 1 ∧ (T.cl k).getD 0 0 ∈ T.lits)
 two : ∀ k, T.live k → k ∉ T.short → k ∉ T.weak → 2 ≤ (T.cl k).length
 lev : ∀ k, T.live k → k ∉ T.short → k ∉ T.weak → ∀ x ∈ T.levels, Wk T.lits (T.cl k) x.2 x.1
 nx : ∀ x ∈ T.levels, x.2 ≤ x.1 ∧ x.2 ≤ T.next
 nm : T.levels.Pairwise (fun x y => x.2 ≤ y.2)
 rea : ∀ i, i < T.ents.length → (T.ent i).2.2 = -1 ∨ (0 ≤ (T.ent i).2.2 ∧ (T.ent i).2.2.toNat < T.cls.length ∧ Cause T.lits (T.cl (T.ent i).2.2.toNat) (T.ent i).1 i)
 dec : ∀ i, i < T.ents.length → ((T.ent i).2.2 = -1 ↔ ∃ x ∈ T.levels, x.1 = i)
 lvl : ∀ i, i < T.ents.length → (T.ent i).2.1 = (T.levels.filter fun x => decide (x.1 ≤ i)).length
 sn : (T.short ++ T.weak).Nodup
theorem Cause.perm {S c d : List Int} {x : Int} {i : Nat} (h : Cause S c x i) (hp : d.Perm c) : Cause S d x i :=
 ⟨hp.mem_iff.2 h.mem, fun y hy => h.oth y (hp.mem_iff.1 hy)⟩
theorem Inv.repl {T U : Trail} (h : Inv T) (o : Ok U) (hw : Wat U) (hn : U.n = T.n) (hg : U.gone = T.gone) (he : U.ents = T.ents) (hl : U.levels = T.levels) (hx : U.next = T.next) (hs : U.short = T.short) (hk : U.weak = T.weak) (hc : U.cls.length = T.cls.length)
  (hp : ∀ m, (U.cl m).Perm (T.cl m)) (hwk : ∀ m, T.live m → m ∉ T.short → ∀ n f, Wk T.lits (T.cl m) n f → Wk T.lits (U.cl m) n f) : Inv U := by
 have hli : U.lits = T.lits := by unfold Trail.lits; rw [he]
 have hlive : ∀ k, U.live k ↔ T.live k := fun k => by unfold Trail.live; rw [hc, hg]
 have hent : ∀ i, U.ent i = T.ent i := fun i => by unfold Trail.ent; rw [he]
 refine ⟨o, hw, fun k hkl hks => ?_, fun k hkl hks hkw => ?_, fun k hkl hks hkw x hx' => ?_, ?_, ?_, fun i hi => ?_, fun i hi => ?_, fun i hi => ?_, by rw [hs, hk]; exact h.sn⟩
 ·rw [hlive] at hkl
  rw [hs] at hks
  rw [hli, hx, he]
  rcases h.top k hkl hks with h1 | ⟨h1, h2⟩
  ·exact .inl (hwk k hkl hks _ _ h1)
  ·refine .inr ⟨by rw [(hp k).length_eq]; exact h1, ?_⟩
   obtain ⟨x, hx1⟩ := List.length_eq_one_iff.1 h1
   have := hp k
   rw [hx1] at this
   rw [List.perm_singleton.1 this, ← hx1]; exact h2
 ·rw [hlive] at hkl
  rw [hs] at hks
  rw [hk] at hkw
  rw [(hp k).length_eq]; exact h.two k hkl hks hkw
 ·rw [hlive] at hkl
  rw [hs] at hks
  rw [hk] at hkw
  rw [hl] at hx'
  rw [hli]
  exact hwk k hkl hks _ _ (h.lev k hkl hks hkw x hx')
 ·rw [hl, hx]; exact h.nx
 ·rw [hl]; exact h.nm
 ·rw [he] at hi
  rw [hent, hc, hli]
  rcases h.rea i hi with h1 | ⟨h1, h2, h3⟩
  ·exact .inl h1
  ·exact .inr ⟨h1, h2, h3.perm (hp _)⟩
 ·rw [he] at hi
  rw [hent, hl]; exact h.dec i hi
 ·rw [he] at hi
  rw [hent, hl]; exact h.lvl i hi
theorem Wk.more {S c : List Int} {n f f' : Nat} {r : List Int} (h : Wk S c n f) (hn : n ≤ S.length) (hf : f ≤ S.length) (hf' : f ≤ f') : Wk (S ++ r) c n f' := by
 refine ⟨h.two, fun h1 => ?_, fun h1 => ?_⟩
 ·rw [List.take_append_of_le_length hn] at h1
  have := h.a h1
  exact (List.take_subset_take_left (S ++ r) hf') (by rw [List.take_append_of_le_length hf]; exact this)
 ·rw [List.take_append_of_le_length hn] at h1
  have := h.b h1
  exact (List.take_subset_take_left (S ++ r) hf') (by rw [List.take_append_of_le_length hf]; exact this)
theorem ent_put {T : Trail} {l r : Int} {i : Nat} (hi : i < T.ents.length) : (T.put l r).ent i = T.ent i := by
 unfold Trail.put Trail.ent
 exact getD_app_l _ _ _ hi
theorem ent_new (T : Trail) (l r : Int) : (T.put l r).ent T.ents.length = (l, T.levels.length, r) := by
 unfold Trail.put Trail.ent
 rw [getD_app_r _ _ _ (Nat.le_refl _)]; simp
theorem lits_put (T : Trail) (l r : Int) : (T.put l r).lits = T.lits ++ [l] := by simp [Trail.put, Trail.lits]
theorem filter_all {T : Trail} (o : Ok T) {m : Nat} (hm : T.ents.length ≤ m) : (T.levels.filter fun x => decide (x.1 ≤ m)).length = T.levels.length := by
 rw [List.filter_eq_self.2]
 intro x hx
 have := o.lin x hx
 simp; omega
theorem Inv.put {T : Trail} (h : Inv T) {l : Int} (hl : l ≠ 0 ∧ l.natAbs ≤ T.n) (hv : T.val l = 0) {k : Nat} (hk : k < T.cls.length) (hc : Cause T.lits (T.cl k) l T.ents.length) : Inv (T.put l k) := by
 have hcb := h.ok.cb
 have hll := lits_len T
 have hlp := lits_put T l k
 have hel : (T.put l k).ents.length = T.ents.length + 1 := by simp [Trail.put]
 refine ⟨h.ok.put hl hv (by omega), ⟨h.wat.nd, h.wat.snd, h.wat.cpl⟩, fun m hm hs => ?_, h.two, fun m hm hs hw x hx => ?_, h.nx, h.nm, fun i hi => ?_, fun i hi => ?_, fun i hi => ?_, h.sn⟩
 ·rw [hlp, hel]
  rcases h.top m hm hs with h1 | ⟨h1, h2⟩
  ·exact .inl (h1.more (by rw [hll]; exact h.ok.next) (by omega) (by omega))
  ·exact .inr ⟨h1, List.mem_append_left _ h2⟩
 ·rw [hlp]
  have := h.ok.lin x hx
  have := (h.nx x hx).1
  exact (h.lev m hm hs hw x hx).more (by omega) (by omega) (Nat.le_refl _)
 ·rw [hel] at hi
  rw [hlp]
  rcases Nat.lt_or_ge i T.ents.length with h1 | h1
  ·rw [ent_put h1]
   rcases h.rea i h1 with h2 | ⟨h2, h3, h4⟩
   ·exact .inl h2
   ·refine .inr ⟨h2, h3, h4.mem, fun y hy hne => ?_⟩
    rw [List.take_append_of_le_length (by omega)]
    exact h4.oth y hy hne
  ·have e : i = T.ents.length := by omega
   subst e
   rw [ent_new]
   have e2 : ((k : Int)).toNat = k := by omega
   simp only [e2]
   refine .inr ⟨by omega, hk, hc.mem, fun y hy hne => ?_⟩
   rw [List.take_append_of_le_length (by omega)]
   exact hc.oth y hy hne
 ·rw [hel] at hi
  rcases Nat.lt_or_ge i T.ents.length with h1 | h1
  ·rw [ent_put h1]; exact h.dec i h1
  ·have e : i = T.ents.length := by omega
   subst e
   rw [ent_new]
   constructor
   ·intro h2; simp only at h2; omega
   ·rintro ⟨x, hx, h2⟩
    have := h.ok.lin x hx; omega
 ·rw [hel] at hi
  rcases Nat.lt_or_ge i T.ents.length with h1 | h1
  ·rw [ent_put h1]; exact h.lvl i h1
  ·have e : i = T.ents.length := by omega
   subst e
   rw [ent_new]
   show T.levels.length = _
   exact (filter_all h.ok (Nat.le_refl _)).symm
theorem Wk.swap {S c : List Int} {n f : Nat} (h : Wk S c n f) : Wk S (swapL c 0 1) n f := by
 have h2 := h.two
 have hg := swapL_get c (i := 0) (j := 1) (by omega) (by omega)
 have e0 : (swapL c 0 1).getD 0 0 = c.getD 1 0 := by rw [hg]; simp
 have e1 : (swapL c 0 1).getD 1 0 = c.getD 0 0 := by rw [hg]; simp
 refine ⟨by rw [swapL_len]; exact h2, ?_, ?_⟩
 ·rw [e0, e1]; exact h.b
 ·rw [e0, e1]; exact h.a
theorem Wk.turn {S c : List Int} {n f : Nat} (h : Wk S c n f) (l : Int) : Wk S (turn l c) n f := by
 unfold Tr.turn
 split
 ·exact h.swap
 ·exact h
end Tr
namespace Tr
open Cnf
theorem findM_some {T : Trail} {c : List Int} : ∀ {ks : List Nat} {j : Nat}, T.findM c ks = some j → j ∈ ks ∧ 0 ≤ T.val (c.getD j 0)
 | [], j, h => by simp [Trail.findM] at h
 | k :: r, j, h => by
  unfold Trail.findM at h
  split at h
  ·rename_i hc
   obtain rfl := Option.some.inj h
   exact ⟨List.mem_cons_self, hc⟩
  ·have := findM_some h
   exact ⟨List.mem_cons_of_mem _ this.1, this.2⟩
theorem findM_none {T : Trail} {c : List Int} : ∀ {ks : List Nat}, T.findM c ks = none → ∀ j ∈ ks, T.val (c.getD j 0) < 0
 | [], _, j, hj => by cases hj
 | k :: r, h, j, hj => by
  unfold Trail.findM at h
  split at h
  ·simp at h
  ·rename_i hc
   rcases List.mem_cons.1 hj with e | e
   ·subst e; omega
   ·exact findM_none h j e
theorem mem_range_drop {n a j : Nat} : j ∈ (List.range n).drop a ↔ a ≤ j ∧ j < n := by
 rw [List.mem_drop_iff_getElem]
 constructor
 ·rintro ⟨i, hi, h⟩
  simp at h hi
  omega
 ·rintro ⟨h1, h2⟩
  exact ⟨j - a, by simp; omega, by simp; omega⟩
theorem Ok.one {T : Trail} (o : Ok T) {x : Int} : T.val x = 1 ↔ x ∈ T.lits := o.good.one
theorem Ok.neg1 {T : Trail} (o : Ok T) {x : Int} : T.val x = -1 ↔ -x ∈ T.lits := o.good.neg
theorem val3 (T : Trail) (x : Int) : T.val x = 0 ∨ T.val x = 1 ∨ T.val x = -1 := value_range T.lits x
theorem Ok.neg_of {T : Trail} (o : Ok T) {x : Int} (h : T.val x < 0) : -x ∈ T.lits := o.neg1.1 (by have := val3 T x; omega)
theorem Ok.both {T : Trail} (o : Ok T) {x : Int} (h1 : x ∈ T.lits) (h2 : -x ∈ T.lits) : False := o.good.cons h1 h2
structure Ext (T U : Trail) : Prop where
 n : U.n = T.n
 gone : U.gone = T.gone
 levels : U.levels = T.levels
 len : U.cls.length = T.cls.length
 perm : ∀ m, (U.cl m).Perm (T.cl m)
 ents : ∃ r, U.ents = T.ents ++ r
theorem Ext.refl (T : Trail) : Ext T T := ⟨rfl, rfl, rfl, rfl, fun _ => List.Perm.refl _, ⟨[], by simp⟩⟩
theorem Ext.trans {T U W : Trail} (h : Ext T U) (k : Ext U W) : Ext T W := by
 obtain ⟨r, hr⟩ := h.ents
 obtain ⟨s, hs⟩ := k.ents
 exact ⟨k.n.trans h.n, k.gone.trans h.gone, k.levels.trans h.levels, k.len.trans h.len, fun m => (k.perm m).trans (h.perm m), ⟨r ++ s, by rw [hs, hr, List.append_assoc]⟩⟩
theorem Ext.lits {T U : Trail} (h : Ext T U) : ∃ r, U.lits = T.lits ++ r := by
 obtain ⟨r, hr⟩ := h.ents
 exact ⟨r.map (·.1), by unfold Trail.lits; rw [hr, List.map_append]⟩
theorem Ext.live {T U : Trail} (h : Ext T U) (k : Nat) : U.live k ↔ T.live k := by unfold Trail.live; rw [h.len, h.gone]
structure ExtV (T U : Trail) : Prop where
 ext : Ext T U
 next : U.next = T.next
 short : U.short = T.short
 weak : U.weak = T.weak
theorem ExtV.trans {T U W : Trail} (h : ExtV T U) (k : ExtV U W) : ExtV T W := ⟨h.ext.trans k.ext, k.next.trans h.next, k.short.trans h.short, k.weak.trans h.weak⟩
theorem ExtV.setW (T : Trail) (p : Nat) (l : List Nat) : ExtV T (T.setW p l) := ⟨⟨rfl, rfl, rfl, rfl, fun _ => List.Perm.refl _, ⟨[], by simp [Trail.setW]⟩⟩, rfl, rfl, rfl⟩
theorem ExtV.setC {T : Trail} {k : Nat} (hk : k < T.cls.length) {c : List Int} (hp : c.Perm (T.cl k)) : ExtV T (T.setC k c) :=
 ⟨⟨rfl, rfl, rfl, by simp [Trail.setC], fun m => by
  rw [setC_cl hk]
  split
  ·rename_i e; subst e; exact hp
  ·exact List.Perm.refl _, ⟨[], by simp [Trail.setC]⟩⟩, rfl, rfl, rfl⟩
theorem ExtV.put (T : Trail) (l r : Int) : ExtV T (T.put l r) := ⟨⟨rfl, rfl, rfl, rfl, fun _ => List.Perm.refl _, ⟨_, rfl⟩⟩, rfl, rfl, rfl⟩
theorem ExtV.moveTo {T : Trail} {k j : Nat} (hk : k < T.cls.length) (h1 : 1 < (T.cl k).length) (hj : j < (T.cl k).length) : ExtV T (T.moveTo k j) :=
 ⟨⟨rfl, rfl, rfl, by simp [Trail.moveTo], fun m => by
  have := setC_cl hk (swapL (T.cl k) 1 j) m
  show ((T.setC k (swapL (T.cl k) 1 j)).cl m).Perm _
  rw [this]
  split
  ·rename_i e; subst e; exact swapL_perm _ h1 hj
  ·exact List.Perm.refl _, ⟨[], by simp [Trail.moveTo]⟩⟩, rfl, rfl, rfl⟩
structure VI (l : Int) (T : Trail) (kept r : List Nat) : Prop where
 inv : Inv (T.setW (place l) (kept ++ r))
 hl : l ≠ 0 ∧ l.natAbs ≤ T.n
 fal : -l ∈ T.lits
 kep : ∀ k ∈ kept, 2 ≤ (T.cl k).length ∧ (T.cl k).getD 1 0 = l ∧ (T.cl k).getD 0 0 ∈ T.lits
structure VPost (l : Int) (T U : Trail) (z : Int) : Prop where
 inv : Inv U
 ext : ExtV T U
 end_ : (z = -1 ∧ ∀ k ∈ U.wt (place l), 2 ≤ (U.cl k).length ∧ (U.cl k).getD 1 0 = l ∧ (U.cl k).getD 0 0 ∈ U.lits) ∨
  (∃ k : Nat, z = k ∧ U.live k ∧ ∀ x ∈ U.cl k, -x ∈ U.lits)
theorem VPost.pre {l : Int} {T T1 U : Trail} {z : Int} (h : VPost l T1 U z) (e : ExtV T T1) : VPost l T U z := ⟨h.inv, e.trans h.ext, h.end_⟩
structure VStep (l : Int) (T : Trail) (kept r : List Nat) (k : Nat) : Prop where
 hk : k < T.cls.length
 live : T.live k
 good : Up.Good T.n (turn l (T.cl k))
 inv1 : Inv ((T.setC k (turn l (T.cl k))).setW (place l) (kept ++ k :: r))
 c1 : 1 < (T.cl k).length → (turn l (T.cl k)).getD 1 0 = l ∧ (turn l (T.cl k)).getD 0 0 ≠ l
 c0 : ¬ 1 < (T.cl k).length → (T.cl k).length = 1 ∧ turn l (T.cl k) = [l]
 notin : k ∉ kept ∧ k ∉ r
theorem VI.step {l : Int} {T : Trail} {kept r : List Nat} {k : Nat} (h : VI l T kept (k :: r)) : VStep l T kept r k := by
 have o0 := h.inv.ok
 have hwl : T.watch.length = 2 * T.n := by have := o0.wl; simpa [Trail.setW] using this
 have hpl : place l < T.watch.length := by rw [hwl]; exact Rup.place_lt h.hl
 have hwt := setW_wt hpl (kept ++ k :: r)
 have hin : k ∈ (T.setW (place l) (kept ++ k :: r)).wt (place l) := by rw [hwt, if_pos rfl]; simp
 obtain ⟨hk, hg, i, i1, i2, i3⟩ := h.inv.wat.snd _ _ hin
 have hk : k < T.cls.length := hk
 have i2 : i < (T.cl k).length := i2
 have i3 : place ((T.cl k).getD i 0) = place l := i3
 have hgc : Up.Good T.n (T.cl k) := o0.cl (T := T.setW (place l) (kept ++ k :: r)) hk
 have hi : (T.cl k).getD i 0 = l := Rup.place_inj (hgc.lit _ (getD_mem' 0 i2)).1 h.hl.1 i3
 have hnd := h.inv.wat.nd (place l)
 rw [hwt, if_pos rfl, List.nodup_append] at hnd
 refine ⟨hk, ⟨hk, hg⟩, good_perm hgc (turn_perm _ _), ?_, fun h1 => ?_, fun h1 => ?_, fun hm => hnd.2.2 k hm k List.mem_cons_self rfl, (List.nodup_cons.1 hnd.2.1).1⟩
 ·have hw := h.inv.wat.turn (k := k) hk l
  refine h.inv.repl (o0.setC (good_perm hgc (turn_perm _ _))) hw rfl rfl rfl rfl rfl rfl rfl (by simp [Trail.setC, Trail.setW]) (fun m => ?_) (fun m _ _ n f hwk => ?_)
  ·show ((T.setC k (turn l (T.cl k))).cl m).Perm (T.cl m)
   rw [setC_cl hk]
   split
   ·rename_i e; subst e; exact turn_perm _ _
   ·exact List.Perm.refl _
  ·show Wk T.lits ((T.setC k (turn l (T.cl k))).cl m) n f
   have hwk : Wk T.lits (T.cl m) n f := hwk
   rw [setC_cl hk]
   split
   ·rename_i e; subst e; exact hwk.turn l
   ·exact hwk
 ·obtain ⟨t1, _, t0, _⟩ := turn_at hgc h1 ⟨i, i1, i2, hi⟩
  exact ⟨t1, t0⟩
 ·have h1' : (T.cl k).length = 1 := by omega
  obtain ⟨x, hx⟩ := List.length_eq_one_iff.1 h1'
  have hi0 : i = 0 := by omega
  subst hi0
  refine ⟨h1', ?_⟩
  unfold turn
  rw [if_neg (by omega), hx]
  rw [hx] at hi
  simp at hi
  rw [hi]
structure VNames (l : Int) (T : Trail) (kept r : List Nat) (k : Nat) (c : List Int) : Prop where
 hk : k < T.cls.length
 hc : turn l (T.cl k) = c
 hcl : c.length = (T.cl k).length
 hperm : c.Perm (T.cl k)
 hck : (T.setC k c).cl k = c
 i1 : Inv ((T.setC k c).setW (place l) (kept ++ k :: r))
 s1 : 1 < c.length → c.getD 1 0 = l ∧ c.getD 0 0 ≠ l
 s0 : ¬ 1 < c.length → c = [l]
 sg : Up.Good T.n c
 o0 : Ok T
 o1 : Ok (T.setC k c)
 fal : -l ∈ T.lits
 kep1 : ∀ m ∈ kept, 2 ≤ ((T.setC k c).cl m).length ∧ ((T.setC k c).cl m).getD 1 0 = l ∧ ((T.setC k c).cl m).getD 0 0 ∈ (T.setC k c).lits
 hmv : (T.setC k c).moves k = match (T.setC k c).findM c ((List.range c.length).drop 2) with | some j => ((T.setC k c).moveTo k j, true) | none => (T.setC k c, false)
 live : T.live k
 notin : k ∉ kept
 pos : 0 < c.length
theorem Ok.unW {T : Trail} {p : Nat} {x : List Nat} (h : Ok (T.setW p x)) : Ok T :=
 ⟨h.n, h.gl, by simpa [Trail.setW] using h.wl, h.cls, h.cb, h.good, h.sm, h.next, h.lev, h.lin, h.rea⟩
theorem VI.names {l : Int} {T : Trail} {kept r : List Nat} {k : Nat} (h : VI l T kept (k :: r)) {c : List Int} (hc : turn l (T.cl k) = c) : VNames l T kept r k c := by
 have s := h.step
 have hcl : c.length = (T.cl k).length := by rw [← hc]; exact turn_len _ _
 have hperm : c.Perm (T.cl k) := by rw [← hc]; exact turn_perm _ _
 have hck : (T.setC k c).cl k = c := by rw [setC_cl s.hk, if_pos rfl]
 have i1 := s.inv1
 have s1 := s.c1
 have s0 := s.c0
 have sg := s.good
 rw [hc] at i1 s1 s0 sg
 refine ⟨s.hk, hc, hcl, hperm, hck, i1, fun h1 => s1 (by omega), fun h1 => (s0 (by omega)).2, sg, h.inv.ok.unW, i1.ok.unW, h.fal, fun m hm => ?_, ?_, s.live, s.notin.1, ?_⟩
 ·rw [setC_cl s.hk, if_neg (fun e => s.notin.1 (by rw [← e]; exact hm))]
  exact h.kep m hm
 ·unfold Trail.moves; rw [hck]; cases (T.setC k c).findM c ((List.range c.length).drop 2) <;> rfl
 ·by_cases h1 : 1 < c.length
  ·omega
  ·rw [(s0 (by omega)).2]; simp
section
variable {l : Int} {T : Trail} {kept r : List Nat} {k : Nat} {c : List Int}
theorem VNames.one (N : VNames l T kept r k c) (hh : ¬ 1 < c.length) : (T.setC k c).val (c.getD 0 0) = -1 := by
 rw [N.s0 hh]; exact N.o1.neg1.2 N.fal
theorem VNames.oth (N : VNames l T kept r k c) (h1 : 1 < c.length) (hm2 : ((T.setC k c).moves k).2 = false) : ∀ x ∈ c, x ≠ c.getD 0 0 → -x ∈ T.lits := by
 intro x hx hne
 have hf : (T.setC k c).findM c ((List.range c.length).drop 2) = none := by
  cases hf : (T.setC k c).findM c ((List.range c.length).drop 2) with
  | none => rfl
  | some j => rw [N.hmv, hf] at hm2; simp at hm2
 obtain ⟨i, hi, e⟩ := List.getElem_of_mem hx
 have e' : c.getD i 0 = x := by rw [← e]; simp [List.getD_eq_getElem?_getD, hi]
 match i, hi, e' with
 | 0, _, e' => exact absurd e'.symm hne
 | 1, _, e' => rw [← e', (N.s1 h1).1]; exact N.fal
 | i + 2, hi, e' =>
  have := findM_none hf (i + 2) (mem_range_drop.2 ⟨by omega, hi⟩)
  rw [e'] at this
  exact N.o1.neg_of this
theorem VI.moved (h : VI l T kept (k :: r)) (N : VNames l T kept r k c) (hA1 : 1 < c.length) (hA : ((T.setC k c).moves k).2 = true) : VI l ((T.setC k c).moves k).1 kept r ∧ ExtV T ((T.setC k c).moves k).1 := by
 cases hf : (T.setC k c).findM c ((List.range c.length).drop 2) with
 | none => rw [N.hmv, hf] at hA; simp at hA
 | some j =>
  obtain ⟨j1, j2⟩ := findM_some hf
  rw [mem_range_drop] at j1
  have hm1 : ((T.setC k c).moves k).1 = (T.setC k c).moveTo k j := by rw [N.hmv, hf]
  rw [hm1]
  have hck := N.hck
  have o0 := N.o0
  have o1 := N.o1
  have hk1 : k < (T.setC k c).cls.length := by simpa [Trail.setC] using N.hk
  have e2 : ExtV (T.setC k c) ((T.setC k c).moveTo k j) := ExtV.moveTo hk1 (by rw [hck]; omega) (by rw [hck]; omega)
  have hmvcl : ∀ m, ((T.setC k c).moveTo k j).cl m = if m = k then swapL c 1 j else T.cl m := by
   intro m
   have := setC_cl hk1 (swapL ((T.setC k c).cl k) 1 j) m
   show (((T.setC k c).setC k (swapL ((T.setC k c).cl k) 1 j)).cl m) = _
   rw [this, hck]
   split
   ·rfl
   ·rename_i e; rw [setC_cl N.hk, if_neg e]
  refine ⟨⟨?_, h.hl, h.fal, fun m hm => ?_⟩, (ExtV.setC N.hk N.hperm).trans e2⟩
  ·have hw := Wat.move o0 h.hl N.hk h.inv.wat (by have := N.hcl; omega) j1.1 (by have := N.hcl; omega)
   rw [N.hc] at hw
   have hjl : j < c.length := j1.2
   refine N.i1.repl ?_ hw rfl rfl rfl rfl rfl rfl rfl (by simp [Trail.setW, Trail.moveTo, Trail.setC]) (fun m => ?_) (fun m _ _ n f hwk => ?_)
   ·have o2 : Ok ((T.setC k c).setC k (swapL c 1 j)) := o1.setC (good_perm N.sg (swapL_perm c hA1 hjl))
    exact ⟨o2.n, by simpa [Trail.setW, Trail.moveTo, Trail.setC] using o2.gl, by simp [Trail.setW, Trail.moveTo, Trail.setC, o0.wl], by
     have := o2.cls
     intro d hd
     refine this d ?_
     have e : ((T.setC k c).moveTo k j).cls = ((T.setC k c).setC k (swapL c 1 j)).cls := by
      show (T.setC k c).cls.set k (swapL ((T.setC k c).cl k) 1 j) = _
      rw [hck]; rfl
     rw [← e]; exact hd, by simpa [Trail.setW, Trail.moveTo, Trail.setC] using o2.cb, o2.good, by simpa [Trail.setW, Trail.moveTo, Trail.setC] using o2.sm, o2.next, o2.lev, o2.lin, o2.rea⟩
   ·show (((T.setC k c).moveTo k j).cl m).Perm ((T.setC k c).cl m)
    rw [hmvcl, setC_cl N.hk]
    split
    ·exact swapL_perm c hA1 hjl
    ·exact List.Perm.refl _
   ·have hwk : Wk T.lits ((T.setC k c).cl m) n f := hwk
    show Wk T.lits (((T.setC k c).moveTo k j).cl m) n f
    rw [hmvcl]
    rw [setC_cl N.hk] at hwk
    split
    ·rename_i e
     rw [if_pos e] at hwk
     have hg := swapL_get c (i := 1) (j := j) hA1 hjl
     have g0 : (swapL c 1 j).getD 0 0 = c.getD 0 0 := by rw [hg, if_neg (by omega), if_neg (by omega)]
     have g1 : (swapL c 1 j).getD 1 0 = c.getD j 0 := by rw [hg, if_neg (by omega), if_pos rfl]
     refine ⟨by rw [swapL_len]; omega, fun ha => ?_, fun hb => ?_⟩
     ·rw [g0] at ha
      have := hwk.a ha
      rw [(N.s1 hA1).1] at this
      exact (o0.both (List.mem_of_mem_take this) h.fal).elim
     ·rw [g1] at hb
      have h9 := o1.neg1.2 (List.mem_of_mem_take hb : -(c.getD j 0) ∈ (T.setC k c).lits)
      omega
    ·rename_i e
     rw [if_neg e] at hwk; exact hwk
  ·rw [hmvcl, if_neg (fun e => N.notin (by rw [← e]; exact hm))]
   exact h.kep m hm
theorem VI.conf (h : VI l T kept (k :: r)) (N : VNames l T kept r k c) (hm2 : 1 < c.length → ((T.setC k c).moves k).2 = false) (hB1 : (T.setC k c).val (c.getD 0 0) = -1) : VPost l T ((T.setC k c).setW (place l) (kept ++ k :: r)) k := by
 have hck := N.hck
 refine ⟨N.i1, (ExtV.setC N.hk N.hperm).trans (ExtV.setW _ _ _), .inr ⟨k, rfl, ⟨by simpa [Trail.setC, Trail.setW] using N.hk, N.live.2⟩, fun x hx => ?_⟩⟩
 have hx : x ∈ (T.setC k c).cl k := hx
 rw [hck] at hx
 show -x ∈ T.lits
 by_cases e : x = c.getD 0 0
 ·rw [e]; exact N.o1.neg1.1 hB1
 ·by_cases h1 : 1 < c.length
  ·exact N.oth h1 (hm2 h1) x hx e
  ·have := N.s0 h1
   rw [this] at hx e
   simp at hx e
   exact absurd hx e
theorem VI.puts (h : VI l T kept (k :: r)) (N : VNames l T kept r k c) (h1 : 1 < c.length) (hm2 : ((T.setC k c).moves k).2 = false) (hB2 : (T.setC k c).val (c.getD 0 0) = 0) : VI l ((T.setC k c).put (c.getD 0 0) k) (kept ++ [k]) r ∧ ExtV T ((T.setC k c).put (c.getD 0 0) k) := by
 have hck := N.hck
 have hlit : c.getD 0 0 ≠ 0 ∧ (c.getD 0 0).natAbs ≤ T.n := N.sg.lit _ (getD_mem' 0 (by omega))
 refine ⟨⟨?_, h.hl, ?_, fun m hm => ?_⟩, (ExtV.setC N.hk N.hperm).trans (ExtV.put _ _ _)⟩
 ·have hp := N.i1.put (l := c.getD 0 0) hlit hB2 (k := k) (by simpa [Trail.setC, Trail.setW] using N.hk) ?_
  ·have e3 : kept ++ [k] ++ r = kept ++ k :: r := by simp
   rw [e3]; exact hp
  ·show Cause T.lits ((T.setC k c).cl k) (c.getD 0 0) T.ents.length
   rw [hck]
   refine ⟨getD_mem' 0 (by omega), fun y hy hne => ?_⟩
   rw [List.take_of_length_le (by rw [lits_len]; exact Nat.le_refl _)]
   exact N.oth h1 hm2 y hy hne
 ·rw [lits_put]; exact List.mem_append_left _ h.fal
 ·rw [lits_put]
  show 2 ≤ ((T.setC k c).cl m).length ∧ ((T.setC k c).cl m).getD 1 0 = l ∧ _
  rcases List.mem_append.1 hm with hm | hm
  ·have := N.kep1 m hm
   exact ⟨this.1, this.2.1, List.mem_append_left _ this.2.2⟩
  ·simp at hm
   subst hm
   show 2 ≤ ((T.setC m c).cl m).length ∧ ((T.setC m c).cl m).getD 1 0 = l ∧ ((T.setC m c).cl m).getD 0 0 ∈ _
   rw [hck]
   exact ⟨by omega, (N.s1 h1).1, by simp⟩
theorem VI.keeps (h : VI l T kept (k :: r)) (N : VNames l T kept r k c) (h1 : 1 < c.length) (hB3 : (T.setC k c).val (c.getD 0 0) = 1) : VI l (T.setC k c) (kept ++ [k]) r ∧ ExtV T (T.setC k c) := by
 refine ⟨⟨?_, h.hl, h.fal, fun m hm => ?_⟩, ExtV.setC N.hk N.hperm⟩
 ·have e3 : kept ++ [k] ++ r = kept ++ k :: r := by simp
  rw [e3]; exact N.i1
 ·rcases List.mem_append.1 hm with hm | hm
  ·exact N.kep1 m hm
  ·simp at hm
   subst hm
   rw [N.hck]
   exact ⟨by omega, (N.s1 h1).1, N.o1.one.1 hB3⟩
end
theorem visit_post (l : Int) : ∀ (r kept : List Nat) (T : Trail), VI l T kept r → VPost l T (T.visit l r kept).1 (T.visit l r kept).2
 | [], kept, T, h => by
  unfold Trail.visit
  have hi := h.inv
  rw [List.append_nil] at hi
  have hwl : T.watch.length = 2 * T.n := by have := h.inv.ok.wl; simpa [Trail.setW] using this
  refine ⟨hi, ExtV.setW _ _ _, .inl ⟨rfl, fun k hk => ?_⟩⟩
  rw [setW_wt (by rw [hwl]; exact Rup.place_lt h.hl), if_pos rfl] at hk
  exact h.kep k hk
 | k :: r, kept, T, h => by
  obtain ⟨c, hc⟩ : ∃ c, turn l (T.cl k) = c := ⟨_, rfl⟩
  have N := h.names hc
  unfold Trail.visit
  simp only [hc]
  by_cases hA : 1 < c.length ∧ (T.setC k c).val (c.getD 0 0) ≤ 0 ∧ ((T.setC k c).moves k).2 = true
  ·rw [if_pos hA]
   obtain ⟨h1, h2⟩ := h.moved N hA.1 hA.2.2
   exact (visit_post l r kept _ h1).pre h2
  ·rw [if_neg hA]
   have hm2 : (T.setC k c).val (c.getD 0 0) ≤ 0 → 1 < c.length → ((T.setC k c).moves k).2 = false := fun h0 h1 => by
    cases hb : ((T.setC k c).moves k).2
    ·rfl
    ·exact absurd ⟨h1, h0, hb⟩ hA
   by_cases hB1 : (T.setC k c).val (c.getD 0 0) = -1
   ·rw [if_pos hB1]
    exact h.conf N (hm2 (by omega)) hB1
   ·rw [if_neg hB1]
    have h1 : 1 < c.length := by
     by_cases h1 : 1 < c.length
     ·exact h1
     ·exact absurd (N.one h1) hB1
    by_cases hB2 : (T.setC k c).val (c.getD 0 0) = 0
    ·rw [if_pos hB2]
     obtain ⟨h3, h4⟩ := h.puts N h1 (hm2 (by omega) h1) hB2
     exact (visit_post l r (kept ++ [k]) _ h3).pre h4
    ·rw [if_neg hB2]
     have hB3 : (T.setC k c).val (c.getD 0 0) = 1 := by have := val3 (T.setC k c) (c.getD 0 0); omega
     obtain ⟨h3, h4⟩ := h.keeps N h1 hB3
     exact (visit_post l r (kept ++ [k]) _ h3).pre h4
theorem setW_self {T : Trail} {p : Nat} : T.setW p (T.wt p) = T := by
 unfold Trail.setW Trail.wt
 have : T.watch.set p (T.watch.getD p []) = T.watch := by
  apply List.ext_getElem?
  intro i
  rw [List.getElem?_set]
  split
  ·rename_i e; subst e
   split
   ·rename_i h; simp [List.getD_eq_getElem?_getD, h]
   ·rename_i h; rw [List.getElem?_eq_none (by omega)]
  ·rfl
 rw [this]
theorem setC_self {T : Trail} {k : Nat} : T.setC k (T.cl k) = T := by
 unfold Trail.setC Trail.cl
 have : T.cls.set k (T.cls.getD k []) = T.cls := by
  apply List.ext_getElem?
  intro i
  rw [List.getElem?_set]
  split
  ·rename_i e; subst e
   split
   ·rename_i h; simp [List.getD_eq_getElem?_getD, h]
   ·rename_i h; rw [List.getElem?_eq_none (by omega)]
  ·rfl
 rw [this]
theorem VI.start {T : Trail} (h : Inv T) {l : Int} (hl : l ≠ 0 ∧ l.natAbs ≤ T.n) (hf : -l ∈ T.lits) : VI l T [] (T.wt (place l)) :=
 ⟨by rw [List.nil_append, setW_self]; exact h, hl, hf, fun k hk => by cases hk⟩
theorem moves_setW {T : Trail} {p k : Nat} {u : List Nat} (hne : ∀ j, 2 ≤ j → j < (T.cl k).length → 0 ≤ T.val ((T.cl k).getD j 0) → place ((T.cl k).getD j 0) ≠ p) : (T.setW p u).moves k = ((T.moves k).1.setW p u, (T.moves k).2) := by
 unfold Trail.moves
 have e1 : (T.setW p u).cl k = T.cl k := rfl
 have e2 : ∀ ks, (T.setW p u).findM (T.cl k) ks = T.findM (T.cl k) ks := by
  intro ks
  induction ks with
  | nil => rfl
  | cons a r ih => unfold Trail.findM; rw [ih]; rfl
 rw [e1, e2]
 cases hf : T.findM (T.cl k) ((List.range (T.cl k).length).drop 2) with
 | none => rfl
 | some j =>
  obtain ⟨j1, j2⟩ := findM_some hf
  rw [mem_range_drop] at j1
  have h3 := hne j j1.1 j1.2 j2
  have e4 : (swapL (T.cl k) 1 j).getD 1 0 = (T.cl k).getD j 0 := by
   rw [swapL_get _ (by omega) j1.2, if_neg (by omega), if_pos rfl]
  simp only
  unfold Trail.moveTo
  rw [e1]
  simp only [e4]
  have e5 : (T.setW p u).wt (place ((T.cl k).getD j 0)) = T.wt (place ((T.cl k).getD j 0)) := getD_set2 (fun h => h3 h.symm) _ _
  rw [e5]
  unfold Trail.setW
  simp only
  rw [List.set_comm _ _ (fun h => h3 h)]
end Tr
namespace Tr
open Cnf
theorem best_spec (T : Trail) (c : List Int) : ∀ (ks : List Nat) (b : Nat), (T.best c ks b = b ∨ T.best c ks b ∈ ks) ∧ T.rank (c.getD b 0) ≤ T.rank (c.getD (T.best c ks b) 0) ∧ ∀ k ∈ ks, T.rank (c.getD k 0) ≤ T.rank (c.getD (T.best c ks b) 0)
 | [], b => ⟨.inl rfl, Int.le_refl _, fun k hk => by cases hk⟩
 | k :: r, b => by
  unfold Trail.best
  by_cases h : T.rank (c.getD b 0) < T.rank (c.getD k 0)
  ·rw [if_pos h]
   obtain ⟨h1, h2, h3⟩ := best_spec T c r k
   refine ⟨.inr ?_, by omega, fun m hm => ?_⟩
   ·rcases h1 with h1 | h1
    ·rw [h1]; exact List.mem_cons_self
    ·exact List.mem_cons_of_mem _ h1
   ·rcases List.mem_cons.1 hm with e | e
    ·subst e; exact h2
    ·exact h3 m e
  ·rw [if_neg h]
   obtain ⟨h1, h2, h3⟩ := best_spec T c r b
   refine ⟨?_, h2, fun m hm => ?_⟩
   ·rcases h1 with h1 | h1
    ·exact .inl h1
    ·exact .inr (List.mem_cons_of_mem _ h1)
   ·rcases List.mem_cons.1 hm with e | e
    ·subst e; omega
    ·exact h3 m e
theorem bestAt_spec (T : Trail) {c : List Int} {i : Nat} (hi : i < c.length) : i ≤ T.bestAt c i ∧ T.bestAt c i < c.length ∧ ∀ j, i ≤ j → j < c.length → T.rank (c.getD j 0) ≤ T.rank (c.getD (T.bestAt c i) 0) := by
 unfold Trail.bestAt
 obtain ⟨h1, h2, h3⟩ := best_spec T c ((List.range c.length).drop (i + 1)) i
 refine ⟨?_, ?_, fun j j1 j2 => ?_⟩
 ·rcases h1 with h1 | h1
  ·omega
  ·have := mem_range_drop.1 h1; omega
 ·rcases h1 with h1 | h1
  ·omega
  ·have := mem_range_drop.1 h1; omega
 ·by_cases e : j = i
  ·subst e; exact h2
  ·exact h3 j (mem_range_drop.2 ⟨by omega, j2⟩)
theorem rew1_perm (T : Trail) {c : List Int} {i : Nat} (hi : i < c.length) : (T.rew1 c i).Perm c := swapL_perm c hi (bestAt_spec T hi).2.1
structure Best (T : Trail) (c d : List Int) : Prop where
 perm : d.Perm c
 one : ∀ j, j < d.length → T.rank (d.getD j 0) ≤ T.rank (d.getD 0 0)
 two : ∀ j, 1 ≤ j → j < d.length → T.rank (d.getD j 0) ≤ T.rank (d.getD 1 0)
theorem rewatch_best (T : Trail) (c : List Int) : Best T c (T.rewatch c) := by
 unfold Trail.rewatch
 by_cases h0 : c.length = 0
 ·have : c = [] := List.eq_nil_of_length_eq_zero h0
  subst this
  exact ⟨List.Perm.refl _, fun j hj => by simp at hj, fun j _ hj => by simp at hj⟩
 ·have b0 := bestAt_spec T (c := c) (i := 0) (by omega)
  have g0 := swapL_get c (i := 0) (j := T.bestAt c 0) (by omega) b0.2.1
  have p0 := rew1_perm T (c := c) (i := 0) (by omega)
  have l0 : (T.rew1 c 0).length = c.length := p0.length_eq
  have m0 : ∀ j, j < c.length → T.rank ((T.rew1 c 0).getD j 0) ≤ T.rank ((T.rew1 c 0).getD 0 0) := by
   intro j hj
   have e0 : (T.rew1 c 0).getD 0 0 = c.getD (T.bestAt c 0) 0 := by
    unfold Trail.rew1; rw [g0]
    split
    ·rename_i e; rw [← e]
    ·rfl
   rw [e0]
   unfold Trail.rew1; rw [g0]
   split
   ·exact b0.2.2 0 (by omega) (by omega)
   ·split
    ·exact b0.2.2 _ (by omega) b0.2.1
    ·exact b0.2.2 j (by omega) hj
  by_cases h1 : c.length = 1
  ·have e : min c.length 2 = 1 := by omega
   rw [e]
   show Best T c (T.rew1 c 0)
   exact ⟨p0, fun j hj => m0 j (by omega), fun j _ hj => by omega⟩
  ·have e : min c.length 2 = 2 := by omega
   rw [e]
   show Best T c (T.rew1 (T.rew1 c 0) 1)
   obtain ⟨d, hd⟩ : ∃ d, T.rew1 c 0 = d := ⟨_, rfl⟩
   rw [hd] at p0 l0 m0 ⊢
   have b1 := bestAt_spec T (c := d) (i := 1) (by omega)
   have g1 := swapL_get d (i := 1) (j := T.bestAt d 1) (by omega) b1.2.1
   have p1 := rew1_perm T (c := d) (i := 1) (by omega)
   have l1 : (T.rew1 d 1).length = d.length := p1.length_eq
   have e0 : (T.rew1 d 1).getD 0 0 = d.getD 0 0 := by
    unfold Trail.rew1; rw [g1, if_neg (by omega), if_neg (by omega)]
   have e1 : (T.rew1 d 1).getD 1 0 = d.getD (T.bestAt d 1) 0 := by
    unfold Trail.rew1; rw [g1]
    split
    ·rename_i e; rw [← e]
    ·rfl
   refine ⟨p1.trans p0, fun j hj => ?_, fun j j1 hj => ?_⟩
   ·rw [e0]
    unfold Trail.rew1; rw [g1]
    split
    ·exact m0 _ (by omega)
    ·split
     ·exact m0 _ (by omega)
     ·exact m0 j (by omega)
   ·rw [e1]
    unfold Trail.rew1; rw [g1]
    split
    ·exact b1.2.2 1 (by omega) (by omega)
    ·split
     ·exact b1.2.2 _ b1.1 b1.2.1
     ·exact b1.2.2 j j1 (by omega)
theorem Ok.levn {T : Trail} (o : Ok T) : T.levels.length ≤ T.ents.length := by
 have h1 : (T.levels.map (·.1)).Nodup := o.lev.imp fun h => by omega
 have := nodup_lt h1 (n := T.ents.length) (fun x hx => by
  obtain ⟨y, hy, rfl⟩ := List.mem_map.1 hx
  exact o.lin y hy)
 simpa using this
theorem rank_hi {T : Trail} (o : Ok T) (x : Int) : (0 ≤ T.val x ↔ maxI - 1 ≤ T.rank x) := by
 have hn := o.n
 have hl := o.levn
 have hel := o.len
 unfold Trail.rank
 rcases val3 T x with h | h | h
 ·rw [h]; simp
 ·rw [h]; simp [maxI]
 ·rw [h]
  simp only [show ¬ ((-1 : Int) = 1) by decide, show ¬ ((-1 : Int) = 0) by decide, if_false]
  have hb : (atomOf T.ents x.natAbs).2.1 ≤ 65536 := by
   by_cases hx : ∃ y ∈ T.ents, y.1.natAbs = x.natAbs
   ·obtain ⟨y, hy, e⟩ := hx
    rw [← e, atomOf_mem (Nod.of_good o.good) hy]
    have := o.rea y hy
    simp only; omega
   ·rw [atomOf_none (fun y hy e => hx ⟨y, hy, e⟩)]; decide
  constructor
  ·intro h; omega
  ·intro h; unfold maxI at h; omega
theorem Best.all {T : Trail} (o : Ok T) {c d : List Int} (h : Best T c d) (h0 : d.length = 0 ∨ T.val (d.getD 0 0) < 0) : ∀ x ∈ d, -x ∈ T.lits := by
 intro x hx
 obtain ⟨i, hi, e⟩ := List.getElem_of_mem hx
 have e' : d.getD i 0 = x := by rw [← e]; simp [List.getD_eq_getElem?_getD, hi]
 have h1 := h.one i hi
 rw [e'] at h1
 refine o.neg_of ?_
 rcases h0 with h0 | h0
 ·omega
 ·have r0 := rank_hi o (d.getD 0 0)
  have r1 := rank_hi o x
  omega
theorem Best.rest {T : Trail} (o : Ok T) {c d : List Int} (h : Best T c d) (h0 : ¬ 1 < d.length ∨ T.val (d.getD 1 0) < 0) : ∀ x ∈ d, x ≠ d.getD 0 0 → -x ∈ T.lits := by
 intro x hx hne
 obtain ⟨i, hi, e⟩ := List.getElem_of_mem hx
 have e' : d.getD i 0 = x := by rw [← e]; simp [List.getD_eq_getElem?_getD, hi]
 have i1 : 1 ≤ i := by
  rcases Nat.eq_zero_or_pos i with h | h
  ·subst h; exact absurd e'.symm hne
  ·exact h
 have h1 := h.two i i1 hi
 rw [e'] at h1
 refine o.neg_of ?_
 rcases h0 with h0 | h0
 ·omega
 ·have r0 := rank_hi o (d.getD 1 0)
  have r1 := rank_hi o x
  omega
theorem delW_len (W : List (List Nat)) (k : Nat) : ∀ (ls : List Int), (delW W ls k).length = W.length := by
 intro ls
 unfold delW
 induction ls generalizing W with
 | nil => rfl
 | cons l r ih => rw [List.foldl_cons, ih]; simp
theorem addW_len (W : List (List Nat)) (k : Nat) : ∀ (ls : List Int), (addW W ls k).length = W.length := by
 intro ls
 unfold addW
 induction ls generalizing W with
 | nil => rfl
 | cons l r ih => rw [List.foldl_cons, ih]; simp
theorem delW_get (k : Nat) : ∀ (ls : List Int) (W : List (List Nat)), (∀ l ∈ ls, place l < W.length) → ∀ p, (delW W ls k).getD p [] = if ∃ l ∈ ls, place l = p then (W.getD p []).filter (· != k) else W.getD p []
 | [], W, _, p => by simp [delW]
 | l :: r, W, h, p => by
  have e : delW W (l :: r) k = delW (W.set (place l) ((W.getD (place l) []).filter (· != k))) r k := rfl
  rw [e, delW_get k r _ (fun m hm => by rw [List.length_set]; exact h m (List.mem_cons_of_mem _ hm))]
  have hl := h l List.mem_cons_self
  by_cases e1 : place l = p
  ·subst e1
   rw [getD_set1 hl]
   rw [if_pos (⟨l, List.mem_cons_self, rfl⟩ : ∃ m ∈ l :: r, place m = place l)]
   split
   ·rw [List.filter_filter]; simp
   ·rfl
  ·rw [getD_set2 e1]
   have : (∃ m ∈ l :: r, place m = p) ↔ ∃ m ∈ r, place m = p := by
    constructor
    ·rintro ⟨m, hm, h2⟩
     rcases List.mem_cons.1 hm with e | e
     ·subst e; exact absurd h2 e1
     ·exact ⟨m, e, h2⟩
    ·rintro ⟨m, hm, h2⟩; exact ⟨m, List.mem_cons_of_mem _ hm, h2⟩
   simp only [this]
theorem addW_get (k : Nat) : ∀ (ls : List Int) (W : List (List Nat)), (∀ l ∈ ls, place l < W.length) → (ls.map place).Nodup → ∀ p, (addW W ls k).getD p [] = if ∃ l ∈ ls, place l = p then W.getD p [] ++ [k] else W.getD p []
 | [], W, _, _, p => by simp [addW]
 | l :: r, W, h, hn, p => by
  have e : addW W (l :: r) k = addW (W.set (place l) (W.getD (place l) [] ++ [k])) r k := rfl
  rw [List.map_cons, List.nodup_cons] at hn
  rw [e, addW_get k r _ (fun m hm => by rw [List.length_set]; exact h m (List.mem_cons_of_mem _ hm)) hn.2]
  have hl := h l List.mem_cons_self
  by_cases e1 : place l = p
  ·subst e1
   rw [getD_set1 hl]
   rw [if_pos (⟨l, List.mem_cons_self, rfl⟩ : ∃ m ∈ l :: r, place m = place l)]
   rw [if_neg]
   rintro ⟨m, hm, h2⟩
   exact hn.1 (List.mem_map.2 ⟨m, hm, h2⟩)
  ·rw [getD_set2 e1]
   have : (∃ m ∈ l :: r, place m = p) ↔ ∃ m ∈ r, place m = p := by
    constructor
    ·rintro ⟨m, hm, h2⟩
     rcases List.mem_cons.1 hm with e | e
     ·subst e; exact absurd h2 e1
     ·exact ⟨m, e, h2⟩
    ·rintro ⟨m, hm, h2⟩; exact ⟨m, List.mem_cons_of_mem _ hm, h2⟩
   simp only [this]
theorem mem_take2 {c : List Int} {x : Int} : x ∈ c.take 2 ↔ ∃ i, i < 2 ∧ i < c.length ∧ c.getD i 0 = x := by
 constructor
 ·intro h
  obtain ⟨i, hi, e⟩ := List.getElem_of_mem h
  have hi' := hi
  rw [List.length_take] at hi'
  refine ⟨i, by omega, by omega, ?_⟩
  rw [← e]; simp [List.getD_eq_getElem?_getD, show i < c.length by omega]
 ·rintro ⟨i, h1, h2, rfl⟩
  have : (c.take 2)[i]? = some (c.getD i 0) := by
   rw [List.getElem?_take_of_lt h1]; simp [List.getD_eq_getElem?_getD, h2]
  exact List.mem_of_getElem? this
theorem places_nodup {n : Nat} {c : List Int} (h : Up.Good n c) : ((c.take 2).map place).Nodup := by
 have h1 : (c.map fun x => x.natAbs).Nodup := h.nod
 have h2 : ((c.take 2).map fun x => x.natAbs).Nodup := by rw [List.map_take]; exact (List.take_sublist _ _).nodup h1
 have h3 : ∀ x ∈ c.take 2, x ≠ 0 := fun x hx => (h.lit x (List.mem_of_mem_take hx)).1
 unfold List.Nodup at *
 rw [List.pairwise_map] at *
 refine h2.imp_of_mem ?_
 intro a b ha hb hne e
 exact hne (by rw [Rup.place_inj (h3 a ha) (h3 b hb) e])
theorem Wat.anew {T : Trail} (o : Ok T) (h : Wat T) {k : Nat} (hk : k < T.cls.length) (hg : T.gone.getD k true = false) {d : List Int} (hp : d.Perm (T.cl k)) :
  Wat { T with cls := T.cls.set k d, watch := addW (delW T.watch ((T.cl k).take 2) k) (d.take 2) k } := by
 have hgc := o.cl hk
 have hgd := good_perm hgc hp
 have hb1 : ∀ l ∈ (T.cl k).take 2, place l < T.watch.length := fun l hl => by rw [o.wl]; exact Rup.place_lt (hgc.lit l (List.mem_of_mem_take hl))
 have hb2 : ∀ l ∈ d.take 2, place l < (delW T.watch ((T.cl k).take 2) k).length := fun l hl => by rw [delW_len, o.wl]; exact Rup.place_lt (hgd.lit l (List.mem_of_mem_take hl))
 have hdel : ∀ p, (delW T.watch ((T.cl k).take 2) k).getD p [] = (T.wt p).filter (· != k) := by
  intro p
  rw [delW_get k _ _ hb1]
  split
  ·rfl
  ·rename_i hn
   symm
   show (T.wt p).filter _ = T.wt p
   rw [List.filter_eq_self]
   intro m hm
   simp only [bne_iff_ne, ne_eq]
   intro e
   subst e
   obtain ⟨_, _, i, i1, i2, i3⟩ := h.snd p m hm
   exact hn ⟨_, mem_take2.2 ⟨i, i1, i2, rfl⟩, i3⟩
 have hwt : ∀ p, (addW (delW T.watch ((T.cl k).take 2) k) (d.take 2) k).getD p [] = if ∃ l ∈ d.take 2, place l = p then (T.wt p).filter (· != k) ++ [k] else (T.wt p).filter (· != k) := by
  intro p
  rw [addW_get k _ _ hb2 (places_nodup hgd), hdel]
 have hcl : ∀ m, (T.cls.set k d).getD m [] = if m = k then d else T.cl m := fun m => by
  have := setC_cl hk d m
  exact this
 have hmem : ∀ p m, m ∈ (addW (delW T.watch ((T.cl k).take 2) k) (d.take 2) k).getD p [] ↔ (m ≠ k ∧ m ∈ T.wt p) ∨ (m = k ∧ ∃ l ∈ d.take 2, place l = p) := by
  intro p m
  rw [hwt]
  split
  ·rename_i h1
   rw [List.mem_append, List.mem_filter]
   simp only [bne_iff_ne, ne_eq, List.mem_singleton]
   constructor
   ·rintro (⟨h2, h3⟩ | h2)
    ·exact .inl ⟨h3, h2⟩
    ·exact .inr ⟨h2, h1⟩
   ·rintro (⟨h2, h3⟩ | ⟨h2, _⟩)
    ·exact .inl ⟨h3, h2⟩
    ·exact .inr h2
  ·rename_i h1
   rw [List.mem_filter]
   simp only [bne_iff_ne, ne_eq]
   constructor
   ·rintro ⟨h2, h3⟩; exact .inl ⟨h3, h2⟩
   ·rintro (⟨h2, h3⟩ | ⟨_, h2⟩)
    ·exact ⟨h3, h2⟩
    ·exact absurd h2 h1
 refine ⟨fun p => ?_, fun p m hm => ?_, fun m hm hgm i i1 i2 => ?_⟩
 ·show ((addW (delW T.watch ((T.cl k).take 2) k) (d.take 2) k).getD p []).Nodup
  rw [hwt]
  have hf : ((T.wt p).filter (· != k)).Nodup := (h.nd p).filter _
  split
  ·rw [List.nodup_append]
   exact ⟨hf, by simp, fun a ha b hb e => by simp at hb; subst hb; subst e; simp at ha⟩
  ·exact hf
 ·have hm : m ∈ (addW (delW T.watch ((T.cl k).take 2) k) (d.take 2) k).getD p [] := hm
  rw [hmem] at hm
  show m < (T.cls.set k d).length ∧ _ ∧ ∃ i, i < 2 ∧ i < ((T.cls.set k d).getD m []).length ∧ place (((T.cls.set k d).getD m []).getD i 0) = p
  rw [List.length_set, hcl]
  rcases hm with ⟨h1, h2⟩ | ⟨h1, l, h2, h3⟩
  ·rw [if_neg h1]; exact h.snd p m h2
  ·rw [if_pos h1, h1]
   obtain ⟨i, i1, i2, i3⟩ := mem_take2.1 h2
   exact ⟨hk, hg, i, i1, i2, by rw [i3]; exact h3⟩
 ·have hm : m < T.cls.length := by simpa using hm
  have i2 : i < ((T.cls.set k d).getD m []).length := i2
  show m ∈ (addW (delW T.watch ((T.cl k).take 2) k) (d.take 2) k).getD (place (((T.cls.set k d).getD m []).getD i 0)) []
  rw [hmem]
  rw [hcl] at i2 ⊢
  by_cases e : m = k
  ·rw [if_pos e] at i2 ⊢
   exact .inr ⟨e, _, mem_take2.2 ⟨i, i1, i2, rfl⟩, rfl⟩
  ·rw [if_neg e] at i2 ⊢
   exact .inl ⟨e, h.cpl m hm hgm i i1 i2⟩
end Tr
namespace Tr
open Cnf
theorem Inv.unshort {T : Trail} (h : Inv T) {k : Nat} {s wk : List Nat} (hs : T.short = k :: s) (hwk : wk = T.weak ∨ wk = T.weak ++ [k])
  (ht : T.live k → Wk T.lits (T.cl k) T.next T.ents.length ∨ ((T.cl k).length = 1 ∧ (T.cl k).getD 0 0 ∈ T.lits)) (hv : wk = T.weak → T.live k → 2 ≤ (T.cl k).length ∧ ∀ x ∈ T.levels, Wk T.lits (T.cl k) x.2 x.1) :
  Inv { T with short := s, weak := wk } := by
 have o := h.ok
 have hsn := h.sn
 have hsm := o.sm
 rw [hs] at hsn hsm
 have hmemw : ∀ x, x ∈ wk → x ∈ T.weak ∨ x = k := by
  intro x hx
  rcases hwk with e | e
  ·rw [e] at hx; exact .inl hx
  ·rw [e] at hx
   rcases List.mem_append.1 hx with hx | hx
   ·exact .inl hx
   ·simp at hx; exact .inr hx
 have hweak : ∀ x, x ∈ T.weak → x ∈ wk := by
  intro x hx
  rcases hwk with e | e
  ·rw [e]; exact hx
  ·rw [e]; exact List.mem_append_left _ hx
 rw [List.cons_append, List.nodup_cons, List.nodup_append] at hsn
 have hks : k ∉ s := fun hm => hsn.1 (List.mem_append_left _ hm)
 have hkw : k ∉ T.weak := fun hm => hsn.1 (List.mem_append_right _ hm)
 refine ⟨⟨o.n, o.gl, o.wl, o.cls, o.cb, o.good, fun x hx => ?_, o.next, o.lev, o.lin, o.rea⟩, ⟨h.wat.nd, h.wat.snd, h.wat.cpl⟩, fun m hm hms => ?_, fun m hm hms hmw => ?_, fun m hm hms hmw x hx => ?_, h.nx, h.nm, h.rea, h.dec, h.lvl, ?_⟩
 ·rcases List.mem_append.1 hx with hx | hx
  ·exact hsm x (List.mem_append_left _ (List.mem_cons_of_mem _ hx))
  ·rcases hmemw x hx with hx | hx
   ·exact hsm x (List.mem_append_right _ hx)
   ·rw [hx]; exact hsm k (List.mem_append_left _ List.mem_cons_self)
 ·by_cases e : m = k
  ·subst e; exact ht hm
  ·exact h.top m hm (by rw [hs]; simp only [List.mem_cons, not_or]; exact ⟨e, hms⟩)
 ·by_cases e : m = k
  ·subst e
   rcases hwk with e | e
   ·exact (hv e hm).1
   ·exact absurd (by rw [e]; simp) hmw
  ·exact h.two m hm (by rw [hs]; simp only [List.mem_cons, not_or]; exact ⟨e, hms⟩) (fun hw => hmw (hweak m hw))
 ·by_cases e : m = k
  ·subst e
   rcases hwk with e | e
   ·exact (hv e hm).2 x hx
   ·exact absurd (by rw [e]; simp) hmw
  ·exact h.lev m hm (by rw [hs]; simp only [List.mem_cons, not_or]; exact ⟨e, hms⟩) (fun hw => hmw (hweak m hw)) x hx
 ·show (s ++ wk).Nodup
  rw [List.nodup_append]
  refine ⟨hsn.2.1, ?_, fun a ha b hb e => ?_⟩
  ·rcases hwk with e | e
   ·rw [e]; exact hsn.2.2.1
   ·rw [e, List.nodup_append]
    exact ⟨hsn.2.2.1, by simp, fun a ha b hb e => hkw (by simp at hb; rw [← hb, ← e]; exact ha)⟩
  ·subst e
   rcases hmemw a hb with hb | hb
   ·exact hsn.2.2.2 a ha a hb rfl
   ·subst hb; exact hks ha
theorem there_iff {T : Trail} {k : Nat} : T.there (k : Int) = true ↔ T.live k := by
 unfold Trail.there Trail.live
 simp only [Bool.and_eq_true, decide_eq_true_eq, Bool.not_eq_true', Int.toNat_natCast]
 constructor
 ·rintro ⟨⟨_, h1⟩, h2⟩; exact ⟨by omega, h2⟩
 ·rintro ⟨h1, h2⟩; exact ⟨⟨by omega, by omega⟩, h2⟩
theorem Inv.first0 {T : Trail} (h : Inv T) {k : Nat} {s : List Nat} (hs : T.short = k :: s) (hl : T.live k) : Inv (T.first0 k) ∧ ExtV T (T.first0 k) ∧ (T.first0 k).cl k = T.rewatch (T.cl k) := by
 have hb := rewatch_best T (T.cl k)
 have hcl := setC_cl hl.1 (T.rewatch (T.cl k))
 have hperm : ∀ m, ((T.first0 k).cl m).Perm (T.cl m) := fun m => by
  show ((T.setC k (T.rewatch (T.cl k))).cl m).Perm _
  rw [hcl]
  split
  ·rename_i e; subst e; exact hb.perm
  ·exact List.Perm.refl _
 refine ⟨?_, ⟨⟨rfl, rfl, rfl, by simp [Trail.first0], hperm, ⟨[], by simp [Trail.first0]⟩⟩, rfl, rfl, rfl⟩, ?_⟩
 ·have o := h.ok
  have o1 : Ok (T.setC k (T.rewatch (T.cl k))) := o.setC (good_perm (o.cl hl.1) hb.perm)
  refine h.repl ⟨o1.n, o1.gl, by simp [Trail.first0, addW_len, delW_len, o.wl], o1.cls, o1.cb, o1.good, o1.sm, o1.next, o1.lev, o1.lin, o1.rea⟩ (h.wat.anew o hl.1 hl.2 hb.perm) rfl rfl rfl rfl rfl rfl rfl (by simp [Trail.first0]) hperm (fun m _ hms n f hw => ?_)
  show Wk T.lits ((T.setC k (T.rewatch (T.cl k))).cl m) n f
  rw [hcl, if_neg (fun e => hms (by rw [hs, e]; exact List.mem_cons_self))]
  exact hw
 ·show (T.setC k (T.rewatch (T.cl k))).cl k = _
  rw [hcl, if_pos rfl]
theorem Wk.free {S c : List Int} {n f : Nat} (h2 : 2 ≤ c.length) (h0 : -(c.getD 0 0) ∉ S) (h1 : -(c.getD 1 0) ∉ S) : Wk S c n f :=
 ⟨h2, fun h => absurd (List.mem_of_mem_take h) h0, fun h => absurd (List.mem_of_mem_take h) h1⟩
theorem Ok.notneg {T : Trail} (o : Ok T) {x : Int} (h : 0 ≤ T.val x) : -x ∉ T.lits := fun hm => by
 have := o.neg1.2 hm; omega
structure FPost (T : Trail) (k : Nat) (s : List Nat) (U : Trail) (z : Bool) : Prop where
 ext : Ext T U
 no : z = false → Inv U ∧ U.live k ∧ ∀ x ∈ U.cl k, -x ∈ U.lits
 yes : z = true → Inv { U with short := s } ∧ U.next = T.next
theorem first_post {T : Trail} (h : Inv T) {k : Nat} {s : List Nat} (hs : T.short = k :: s) (hl : T.live k) (hn : T.next = T.ents.length) : FPost T k s (T.first k).1 (T.first k).2 := by
 obtain ⟨i0, e0, hck⟩ := h.first0 hs hl
 have hb := rewatch_best T (T.cl k)
 unfold Trail.first
 obtain ⟨d, hd⟩ : ∃ d, T.rewatch (T.cl k) = d := ⟨_, rfl⟩
 rw [hd] at hb hck ⊢
 have o := i0.ok
 have hbU : Best (T.first0 k) (T.cl k) d := ⟨hb.perm, hb.one, hb.two⟩
 have hlU : (T.first0 k).live k := (e0.ext.live k).2 hl
 have hsU : (T.first0 k).short = k :: s := hs
 have hnU : (T.first0 k).next = (T.first0 k).ents.length := hn
 generalize hU : T.first0 k = U at *
 have hgd : Up.Good U.n d := by rw [← hck]; exact o.cl hlU.1
 unfold Trail.firstV
 by_cases c1 : d.length = 0 ∨ U.val (d.getD 0 0) < 0
 ·rw [if_pos c1]
  refine ⟨e0.ext, fun _ => ⟨i0, hlU, ?_⟩, (fun h => (by cases h))⟩
  rw [hck]; exact hbU.all o c1
 ·rw [if_neg c1]
  have hpos : 0 < d.length := by omega
  have hv0 : 0 ≤ U.val (d.getD 0 0) := by omega
  by_cases c2 : 1 < d.length ∧ 0 ≤ U.val (d.getD 1 0)
  ·rw [if_pos c2]
   refine ⟨e0.ext, (fun h => (by cases h)), fun _ => ⟨?_, e0.next⟩⟩
   have hwk : ∀ n f, Wk U.lits (U.cl k) n f := fun n f => by rw [hck]; exact Wk.free (by omega) (o.notneg hv0) (o.notneg c2.2)
   exact i0.unshort hsU (.inl rfl) (fun _ => .inl (hwk _ _)) (fun _ _ => ⟨by rw [hck]; omega, fun x _ => hwk _ _⟩)
  ·rw [if_neg c2]
   have hrest := hbU.rest o (by by_cases h1 : 1 < d.length; exact .inr (by omega); exact .inl h1)
   have hlit := hgd.lit _ (getD_mem' 0 hpos)
   have htop : ∀ W : Trail, W.cl k = d → d.getD 0 0 ∈ W.lits → Ok W → Wk W.lits (W.cl k) W.next W.ents.length ∨ ((W.cl k).length = 1 ∧ (W.cl k).getD 0 0 ∈ W.lits) := by
    intro W hW hin oW
    rw [hW]
    by_cases h1 : 1 < d.length
    ·refine .inl ⟨by omega, fun ha => (oW.both hin (List.mem_of_mem_take ha)).elim, fun _ => ?_⟩
     rw [List.take_of_length_le (by rw [lits_len]; exact Nat.le_refl _)]; exact hin
    ·exact .inr ⟨by omega, hin⟩
   by_cases c3 : U.val (d.getD 0 0) = 0
   ·rw [if_pos c3]
    have ip : Inv (U.put (d.getD 0 0) k) := i0.put hlit c3 hlU.1 (by
     rw [hck]
     refine ⟨getD_mem' 0 hpos, fun y hy hne => ?_⟩
     rw [List.take_of_length_le (by rw [lits_len]; exact Nat.le_refl _)]
     exact hrest y hy hne)
    refine ⟨e0.ext.trans ⟨rfl, rfl, rfl, rfl, fun _ => List.Perm.refl _, ⟨_, rfl⟩⟩, (fun h => (by cases h)), fun _ => ⟨?_, e0.next⟩⟩
    exact ip.unshort (wk := U.weak ++ [k]) hsU (.inr rfl) (fun _ => htop (U.put (d.getD 0 0) k) hck (by rw [lits_put]; simp) ip.ok) (fun e => absurd (congrArg List.length e) (by simp [Trail.put]))
   ·rw [if_neg c3]
    have hin : d.getD 0 0 ∈ U.lits := o.one.1 (by have := val3 U (d.getD 0 0); omega)
    refine ⟨⟨e0.ext.n, e0.ext.gone, e0.ext.levels, e0.ext.len, e0.ext.perm, e0.ext.ents⟩, (fun h => (by cases h)), fun _ => ⟨?_, e0.next⟩⟩
    exact i0.unshort (wk := U.weak ++ [k]) hsU (.inr rfl) (fun _ => htop U hck hin o) (fun e => absurd (congrArg List.length e) (by simp))
theorem Inv.step {U : Trail} (h : Inv U) {l : Int} (hl : l ≠ 0) (hn : U.next < U.ents.length) (hx : U.lits.getD U.next 0 = -l) (hk : ∀ k ∈ U.wt (place l), 2 ≤ (U.cl k).length ∧ (U.cl k).getD 1 0 = l ∧ (U.cl k).getD 0 0 ∈ U.lits) : Inv { U with next := U.next + 1 } := by
 have o := h.ok
 have hfal : -l ∈ U.lits := by rw [← hx]; exact getD_mem' 0 (by rw [lits_len]; exact hn)
 have htk : U.lits.take (U.next + 1) = U.lits.take U.next ++ [-l] := by rw [take_snocI _ _ (by rw [lits_len]; exact hn), hx]
 refine ⟨⟨o.n, o.gl, o.wl, o.cls, o.cb, o.good, o.sm, hn, o.lev, o.lin, o.rea⟩, ⟨h.wat.nd, h.wat.snd, h.wat.cpl⟩, fun m hm hms => ?_, h.two, h.lev, fun x hx => ⟨(h.nx x hx).1, by have := (h.nx x hx).2; simp only; omega⟩, h.nm, h.rea, h.dec, h.lvl, h.sn⟩
 rcases h.top m hm hms with h1 | h1
 ·refine .inl ⟨h1.two, fun ha => ?_, fun hb => ?_⟩
  ·have ha : -((U.cl m).getD 0 0) ∈ U.lits.take (U.next + 1) := ha
   rw [htk, List.mem_append] at ha
   rcases ha with ha | ha
   ·exact h1.a ha
   ·simp at ha
    have e : (U.cl m).getD 0 0 = l := by rw [List.getD_eq_getElem?_getD]; omega
    have hw := h.wat.cpl m hm.1 hm.2 0 (by omega) (by have := h1.two; omega)
    rw [e] at hw
    have := (hk m hw).2.2
    rw [e] at this
    exact (o.both this hfal).elim
  ·have hb : -((U.cl m).getD 1 0) ∈ U.lits.take (U.next + 1) := hb
   rw [htk, List.mem_append] at hb
   rcases hb with hb | hb
   ·exact h1.b hb
   ·simp at hb
    have e : (U.cl m).getD 1 0 = l := by rw [List.getD_eq_getElem?_getD]; omega
    have hw := h.wat.cpl m hm.1 hm.2 1 (by omega) (by have := h1.two; omega)
    rw [e] at hw
    show _ ∈ U.lits.take U.ents.length
    rw [List.take_of_length_le (by rw [lits_len]; exact Nat.le_refl _)]
    exact (hk m hw).2.2
 ·exact .inr h1
theorem Ok.litAt {T : Trail} (o : Ok T) {i : Nat} (h : i < T.ents.length) : T.lits.getD i 0 ≠ 0 ∧ (T.lits.getD i 0).natAbs ≤ T.n := o.good.lit _ (getD_mem' 0 (by rw [lits_len]; exact h))
theorem foll_post {T T' : Trail} {r : Int} (h : Foll T T' r) : Inv T → Inv T' ∧ Ext T T' ∧ ((r = -1 ∧ T'.short = [] ∧ T'.next = T'.ents.length) ∨ ∃ k : Nat, r = k ∧ T'.live k ∧ ∀ x ∈ T'.cl k, -x ∈ T'.lits) := by
 induction h with
 | done hs hn => intro i; exact ⟨i, Ext.refl _, .inl ⟨rfl, hs, hn⟩⟩
 | @conf T T' k hn hv hk =>
  intro i
  have hl := i.ok.litAt hn
  have hp := visit_post (-(T.lits.getD T.next 0)) _ [] T (VI.start i (by omega) (by rw [Int.neg_neg]; exact getD_mem' 0 (by rw [lits_len]; exact hn)))
  rw [hv] at hp
  refine ⟨hp.inv, hp.ext.ext, .inr ?_⟩
  rcases hp.end_ with ⟨e, _⟩ | h
  ·simp only at e; omega
  ·exact h
 | @step T T' T2 k r hn hv hk _ ih =>
  intro i
  have hl := i.ok.litAt hn
  have hp := visit_post (-(T.lits.getD T.next 0)) _ [] T (VI.start i (by omega) (by rw [Int.neg_neg]; exact getD_mem' 0 (by rw [lits_len]; exact hn)))
  rw [hv] at hp
  rcases hp.end_ with ⟨e, hkp⟩ | ⟨m, e, _⟩
  ·obtain ⟨rr, hrr⟩ := hp.ext.ext.lits
   obtain ⟨re, hre⟩ := hp.ext.ext.ents
   have hx : T'.lits.getD T'.next 0 = -(-(T.lits.getD T.next 0)) := by
    have hnx : T'.next = T.next := hp.ext.next
    rw [Int.neg_neg, hnx]
    have hrr : T'.lits = T.lits ++ rr := hrr
    rw [hrr, getD_app_l _ _ _ (by rw [lits_len]; exact hn)]
   have hn' : T'.next < T'.ents.length := by
    have hnx : T'.next = T.next := hp.ext.next
    have hre : T'.ents = T.ents ++ re := hre
    rw [hnx, hre, List.length_append]; omega
   have i2 := hp.inv.step (l := -(T.lits.getD T.next 0)) (by omega) hn' hx hkp
   obtain ⟨j1, j2, j3⟩ := ih i2
   have e2 : Ext T { T' with next := T'.next + 1 } := ⟨hp.ext.ext.n, hp.ext.ext.gone, hp.ext.ext.levels, hp.ext.ext.len, hp.ext.ext.perm, hp.ext.ext.ents⟩
   exact ⟨j1, e2.trans j2, j3⟩
  ·simp only at e; omega
 | @skip T T2 k s r hn hs ht _ ih =>
  intro i
  have hnl : ¬ T.live k := fun hl => by rw [there_iff.2 hl] at ht; cases ht
  have i2 : Inv { T with short := s } := i.unshort hs (.inl rfl) (fun hl => absurd hl hnl) (fun _ hl => absurd hl hnl)
  obtain ⟨j1, j2, j3⟩ := ih i2
  exact ⟨j1, ⟨j2.n, j2.gone, j2.levels, j2.len, j2.perm, j2.ents⟩, j3⟩
 | @bad T T' k s hn hs ht hf =>
  intro i
  have hp := first_post i hs (there_iff.1 ht) hn
  rw [hf] at hp
  obtain ⟨h1, h2, h3⟩ := hp.no rfl
  exact ⟨h1, hp.ext, .inr ⟨k, rfl, h2, h3⟩⟩
 | @look T T' T2 k s r hn hs ht hf _ ih =>
  intro i
  have hp := first_post i hs (there_iff.1 ht) hn
  rw [hf] at hp
  obtain ⟨h1, h2⟩ := hp.yes rfl
  obtain ⟨j1, j2, j3⟩ := ih h1
  have e2 : Ext T { T' with short := s } := ⟨hp.ext.n, hp.ext.gone, hp.ext.levels, hp.ext.len, hp.ext.perm, hp.ext.ents⟩
  exact ⟨j1, e2.trans j2, j3⟩
end Tr
namespace Tr
open Cnf
def new (n : Nat) : Trail := ⟨n, [], [], List.replicate (2 * n) [], [], [], 0, [], []⟩
theorem new_wt (n p : Nat) : (new n).wt p = [] := by
 unfold new Trail.wt
 simp only [List.getD_eq_getElem?_getD, List.getElem?_replicate]
 split <;> rfl
theorem Inv.new {n : Nat} (hn : n ≤ 65536) : Inv (Tr.new n) := by
 refine ⟨⟨hn, rfl, by simp [Tr.new], fun c hc => (by cases hc), by simp [Tr.new], ⟨fun x hx => (by cases hx), by simp [Tr.new, Trail.lits]⟩, fun k hk => (by cases hk), Nat.le_refl _, by simp [Tr.new], fun x hx => (by cases hx), fun x hx => (by cases hx)⟩,
  ⟨fun p => by rw [new_wt]; exact List.nodup_nil, fun p k hk => (by rw [new_wt] at hk; cases hk), fun k hk => (by simp [Tr.new] at hk)⟩, fun k hk => (by simp [Trail.live, Tr.new] at hk), fun k hk => (by simp [Trail.live, Tr.new] at hk), fun k hk => (by simp [Trail.live, Tr.new] at hk), fun x hx => (by cases hx), by simp [Tr.new], fun i hi => (by simp [Tr.new] at hi), fun i hi => (by simp [Tr.new] at hi), fun i hi => (by simp [Tr.new] at hi), by simp [Tr.new]⟩
theorem Inv.add {T : Trail} (h : Inv T) {c : List Int} (hc : Up.Good T.n c) (hb : T.cls.length < 2147483648) : Inv (T.add c) := by
 have o := h.ok
 have hcl : ∀ m, (T.add c).cl m = if m = T.cls.length then c else T.cl m := by
  intro m
  unfold Trail.add Trail.cl
  by_cases e : m = T.cls.length
  ·subst e; rw [if_pos rfl, getD_app_r _ _ _ (Nat.le_refl _)]; simp
  ·rw [if_neg e]
   rcases Nat.lt_or_ge m T.cls.length with h1 | h1
   ·exact getD_app_l _ _ _ h1
   ·rw [List.getD_eq_getElem?_getD, List.getD_eq_getElem?_getD, List.getElem?_eq_none (by simp; omega), List.getElem?_eq_none h1]
 have hgo : ∀ m, m < T.cls.length → (T.add c).gone.getD m true = T.gone.getD m true := fun m hm => getD_app_l _ _ _ (by rw [o.gl]; exact hm)
 have hgn : (T.add c).gone.getD T.cls.length true = false := by
  show (T.gone ++ [false]).getD T.cls.length true = false
  rw [getD_app_r _ _ _ (by rw [o.gl]; exact Nat.le_refl _), o.gl]; simp
 have hlen : (T.add c).cls.length = T.cls.length + 1 := by simp [Trail.add]
 have hbp : ∀ l ∈ c.take 2, place l < T.watch.length := fun l hl => by rw [o.wl]; exact Rup.place_lt (hc.lit l (List.mem_of_mem_take hl))
 have hwt : ∀ p, (T.add c).wt p = if ∃ l ∈ c.take 2, place l = p then T.wt p ++ [T.cls.length] else T.wt p := fun p => addW_get _ _ _ hbp (places_nodup hc) p
 have hnot : ∀ p, T.cls.length ∉ T.wt p := fun p hm => by have := (h.wat.snd p _ hm).1; omega
 have hlive : ∀ m, (T.add c).live m → m ∉ (T.add c).short → T.live m ∧ m ∉ T.short ∧ (T.add c).cl m = T.cl m := by
  intro m hm hs
  have hs' : m ∉ T.short ++ [T.cls.length] := hs
  rw [List.mem_append, not_or] at hs'
  have hne : m ≠ T.cls.length := fun e => hs'.2 (by simp [e])
  have hm1 : m < T.cls.length := by have := hm.1; omega
  exact ⟨⟨hm1, by rw [← hgo m hm1]; exact hm.2⟩, hs'.1, by rw [hcl, if_neg hne]⟩
 refine ⟨⟨o.n, by simp [Trail.add, o.gl], by simp [Trail.add, addW_len, o.wl], fun d hd => ?_, by rw [hlen]; omega, o.good, fun x hx => ?_, o.next, o.lev, o.lin, o.rea⟩, ⟨fun p => ?_, fun p m hm => ?_, fun m hm hg i i1 i2 => ?_⟩, fun m hm hs => ?_, fun m hm hs hw => ?_, fun m hm hs hw x hx => ?_, h.nx, h.nm, fun i hi => ?_, h.dec, h.lvl, ?_⟩
 ·have hd : d ∈ T.cls ++ [c] := hd
  rcases List.mem_append.1 hd with hd | hd
  ·exact o.cls d hd
  ·simp at hd; subst hd; exact hc
 ·have hx : x ∈ (T.short ++ [T.cls.length]) ++ T.weak := hx
  rw [hlen]
  rcases List.mem_append.1 hx with hx | hx
  ·rcases List.mem_append.1 hx with hx | hx
   ·have := o.sm x (List.mem_append_left _ hx); omega
   ·simp at hx; omega
  ·have := o.sm x (List.mem_append_right _ hx); omega
 ·rw [hwt]
  split
  ·rw [List.nodup_append]
   exact ⟨h.wat.nd p, by simp, fun a ha b hb e => hnot p (by simp at hb; rw [← hb, ← e]; exact ha)⟩
  ·exact h.wat.nd p
 ·have hold : m ∈ T.wt p → m < (T.add c).cls.length ∧ (T.add c).gone.getD m true = false ∧ ∃ i, i < 2 ∧ i < ((T.add c).cl m).length ∧ place (((T.add c).cl m).getD i 0) = p := fun hm => by
   obtain ⟨h1, h2, h3⟩ := h.wat.snd p m hm
   rw [hlen, hgo m h1, hcl, if_neg (by omega)]
   exact ⟨by omega, h2, h3⟩
  rw [hwt] at hm
  split at hm
  ·rename_i he
   rcases List.mem_append.1 hm with hm | hm
   ·exact hold hm
   ·simp at hm
    subst hm
    obtain ⟨l, hl, e⟩ := he
    obtain ⟨i, i1, i2, i3⟩ := mem_take2.1 hl
    rw [hlen, hgn, hcl, if_pos rfl]
    exact ⟨by omega, rfl, i, i1, i2, by rw [i3]; exact e⟩
  ·exact hold hm
 ·rw [hlen] at hm
  rw [hcl] at i2
  rw [hwt, hcl]
  by_cases e : m = T.cls.length
  ·rw [if_pos e] at i2 ⊢
   rw [if_pos ⟨_, mem_take2.2 ⟨i, i1, i2, rfl⟩, rfl⟩]
   simp [e]
  ·rw [if_neg e] at i2 ⊢
   have hm1 : m < T.cls.length := by omega
   have := h.wat.cpl m hm1 (by rw [← hgo m hm1]; exact hg) i i1 i2
   split
   ·exact List.mem_append_left _ this
   ·exact this
 ·obtain ⟨h1, h2, h3⟩ := hlive m hm hs
  rw [h3]; exact h.top m h1 h2
 ·obtain ⟨h1, h2, h3⟩ := hlive m hm hs
  rw [h3]; exact h.two m h1 h2 hw
 ·obtain ⟨h1, h2, h3⟩ := hlive m hm hs
  rw [h3]; exact h.lev m h1 h2 hw x hx
 ·rcases h.rea i hi with h1 | ⟨h1, h2, h3⟩
  ·exact .inl h1
  ·refine .inr ⟨h1, ?_, ?_⟩
   ·rw [hlen]; show (T.ent i).2.2.toNat < _; omega
   ·show Cause T.lits ((T.add c).cl (T.ent i).2.2.toNat) (T.ent i).1 i
    rw [hcl, if_neg (by omega)]; exact h3
 ·show ((T.short ++ [T.cls.length]) ++ T.weak).Nodup
  have hsn := h.sn
  rw [List.nodup_append] at hsn
  rw [List.append_assoc, List.nodup_append]
  have hk : ∀ a, a ∈ T.short ++ T.weak → a ≠ T.cls.length := fun a ha e => by have := o.sm a ha; omega
  refine ⟨hsn.1, ?_, fun a ha b hb e => ?_⟩
  ·rw [List.singleton_append, List.nodup_cons]
   exact ⟨fun hm => hk _ (List.mem_append_right _ hm) rfl, hsn.2.1⟩
  ·rw [List.singleton_append] at hb
   rcases List.mem_cons.1 hb with hb | hb
   ·exact hk a (List.mem_append_left _ ha) (by rw [e, hb])
   ·exact hsn.2.2 a ha b hb e
theorem Inv.decide {T : Trail} (h : Inv T) {l : Int} (hl : l ≠ 0 ∧ l.natAbs ≤ T.n) (hv : T.val l = 0) : Inv (T.dec l) := by
 have o := h.ok
 have hll := lits_len T
 have hlp : (T.dec l).lits = T.lits ++ [l] := by simp [Trail.dec, Trail.put, Trail.lits]
 have hel : (T.dec l).ents.length = T.ents.length + 1 := by simp [Trail.dec, Trail.put]
 have hlv : (T.dec l).levels = T.levels ++ [(T.ents.length, T.next)] := rfl
 have hent : ∀ i, i < T.ents.length → (T.dec l).ent i = T.ent i := fun i hi => by
  unfold Trail.dec Trail.put Trail.ent; exact getD_app_l _ _ _ hi
 have hnew : (T.dec l).ent T.ents.length = (l, T.levels.length + 1, -1) := by
  unfold Trail.dec Trail.put Trail.ent
  simp only [List.length_append, List.length_singleton]
  rw [getD_app_r _ _ _ (Nat.le_refl _)]; simp
 have hnx := o.next
 refine ⟨⟨o.n, o.gl, o.wl, o.cls, o.cb, ?_, o.sm, by rw [hel]; show T.next ≤ _; omega, ?_, fun x hx => ?_, fun x hx => ?_⟩, ⟨h.wat.nd, h.wat.snd, h.wat.cpl⟩, fun m hm hs => ?_, h.two, fun m hm hs hw x hx => ?_, fun x hx => ?_, ?_, fun i hi => ?_, fun i hi => ?_, fun i hi => ?_, h.sn⟩
 ·rw [hlp]; exact o.good.snoc hl hv
 ·rw [hlv, List.map_append, List.pairwise_append]
  refine ⟨o.lev, by simp, fun a ha b hb => ?_⟩
  obtain ⟨y, hy, rfl⟩ := List.mem_map.1 ha
  simp at hb; subst hb
  exact o.lin y hy
 ·rw [hlv] at hx
  rw [hel]
  rcases List.mem_append.1 hx with hx | hx
  ·have := o.lin x hx; omega
  ·simp at hx; subst hx; simp
 ·have hx : x ∈ T.ents ++ [(l, (T.levels ++ [(T.ents.length, T.next)]).length, -1)] := hx
  rw [hlv]
  rcases List.mem_append.1 hx with hx | hx
  ·have := o.rea x hx
   simp only [List.length_append, List.length_singleton]; omega
  ·simp at hx; subst hx; simp
 ·rw [hlp, hel]
  rcases h.top m hm hs with h1 | ⟨h1, h2⟩
  ·exact .inl (h1.more (by rw [hll]; exact hnx) (by omega) (by omega))
  ·exact .inr ⟨h1, List.mem_append_left _ h2⟩
 ·rw [hlp]
  rw [hlv] at hx
  rcases List.mem_append.1 hx with hx | hx
  ·have := o.lin x hx
   have := (h.nx x hx).1
   exact (h.lev m hm hs hw x hx).more (by omega) (by omega) (Nat.le_refl _)
  ·simp at hx
   subst hx
   rcases h.top m hm hs with h1 | ⟨h1, _⟩
   ·exact h1.more (by rw [hll]; exact hnx) (by omega) (Nat.le_refl _)
   ·have := h.two m hm hs hw
    have e : (T.dec l).cl m = T.cl m := rfl
    omega
 ·rw [hlv] at hx
  rcases List.mem_append.1 hx with hx | hx
  ·exact h.nx x hx
  ·simp at hx; subst hx; exact ⟨hnx, Nat.le_refl _⟩
 ·rw [hlv, List.pairwise_append]
  refine ⟨h.nm, by simp, fun a ha b hb => ?_⟩
  simp at hb; subst hb
  exact (h.nx a ha).2
 ·rw [hel] at hi
  rw [hlp]
  rcases Nat.lt_or_ge i T.ents.length with h1 | h1
  ·rw [hent i h1]
   rcases h.rea i h1 with h2 | ⟨h2, h3, h4⟩
   ·exact .inl h2
   ·refine .inr ⟨h2, h3, h4.mem, fun y hy hne => ?_⟩
    rw [List.take_append_of_le_length (by omega)]
    exact h4.oth y hy hne
  ·have e : i = T.ents.length := by omega
   subst e
   rw [hnew]; exact .inl rfl
 ·rw [hel] at hi
  rw [hlv]
  rcases Nat.lt_or_ge i T.ents.length with h1 | h1
  ·rw [hent i h1, h.dec i h1]
   constructor
   ·rintro ⟨x, hx, e⟩; exact ⟨x, List.mem_append_left _ hx, e⟩
   ·rintro ⟨x, hx, e⟩
    rcases List.mem_append.1 hx with hx | hx
    ·exact ⟨x, hx, e⟩
    ·simp at hx; subst hx; simp at e; omega
  ·have e : i = T.ents.length := by omega
   subst e
   rw [hnew]
   exact ⟨fun _ => ⟨(T.ents.length, T.next), by simp, rfl⟩, fun _ => rfl⟩
 ·rw [hel] at hi
  rw [hlv, List.filter_append, List.length_append]
  rcases Nat.lt_or_ge i T.ents.length with h1 | h1
  ·rw [hent i h1, h.lvl i h1]
   have : ([(T.ents.length, T.next)] : List (Nat × Nat)).filter (fun x => Decidable.decide (x.1 ≤ i)) = [] := by
    simp; omega
   rw [this]; simp
  ·have e : i = T.ents.length := by omega
   subst e
   rw [hnew, filter_all o (Nat.le_refl _)]
   simp
theorem take_take_le {α : Type} (l : List α) {a b : Nat} (h : a ≤ b) : (l.take b).take a = l.take a := by
 rw [List.take_take, Nat.min_eq_left h]
theorem Inv.backTo {T : Trail} (h : Inv T) {k : Nat} (hk : k < T.levels.length) : Inv (T.backTo k) := by
 have o := h.ok
 have hll := lits_len T
 obtain ⟨x, hx⟩ : ∃ x, T.levels.getD k (0, 0) = x := ⟨_, rfl⟩
 have hxm : x ∈ T.levels := by rw [← hx]; exact getD_mem' _ hk
 have hxl := o.lin x hxm
 have hxn := h.nx x hxm
 have hmin : min T.next x.2 = x.2 := by omega
 have hB : T.backTo k = { T with ents := T.ents.take x.1, levels := T.levels.take k, next := x.2, short := T.short ++ T.weak, weak := [] } := by
  unfold Trail.backTo; rw [hx, hmin]
 have hlits : (T.backTo k).lits = T.lits.take x.1 := by rw [hB]; simp [Trail.lits]
 have hents : (T.backTo k).ents = T.ents.take x.1 := by rw [hB]
 have hel : (T.backTo k).ents.length = x.1 := by rw [hents, List.length_take]; omega
 have hlv : (T.backTo k).levels = T.levels.take k := by rw [hB]
 have hent : ∀ i, i < x.1 → (T.backTo k).ent i = T.ent i := fun i hi => by
  unfold Trail.ent; rw [hents, List.getD_eq_getElem?_getD, List.getElem?_take_of_lt hi, ← List.getD_eq_getElem?_getD]
 -- the levels ahead begin earlier, those behind later
 have hxg : T.levels[k]? = some x := by
  rw [← hx, List.getD_eq_getElem?_getD, List.getElem?_eq_getElem hk]; rfl
 have hpre : ∀ y ∈ T.levels.take k, y.1 < x.1 ∧ y.2 ≤ x.2 := by
  intro y hy
  obtain ⟨i, hi, e⟩ := List.getElem_of_mem hy
  have hi' := hi
  rw [List.length_take] at hi'
  rw [List.getElem_take] at e
  have hkx : T.levels[k] = x := by
   rw [List.getElem?_eq_getElem hk] at hxg; exact Option.some.inj hxg
  have p1 := (List.pairwise_iff_getElem.1 (List.pairwise_map.1 o.lev)) i k (by omega) hk (by omega)
  have p2 := (List.pairwise_iff_getElem.1 h.nm) i k (by omega) hk (by omega)
  rw [e, hkx] at p1 p2
  exact ⟨p1, p2⟩
 have hpost : ∀ y ∈ T.levels.drop k, x.1 ≤ y.1 := by
  intro y hy
  obtain ⟨i, hi, e⟩ := List.getElem_of_mem hy
  have hi' := hi
  rw [List.length_drop] at hi'
  rw [List.getElem_drop] at e
  have hkx : T.levels[k] = x := by
   rw [List.getElem?_eq_getElem hk] at hxg; exact Option.some.inj hxg
  rcases Nat.eq_zero_or_pos i with h0 | h0
  ·subst h0
   have : T.levels[k] = y := by simpa using e
   rw [← this, hkx]; exact Nat.le_refl _
  ·have p1 := (List.pairwise_iff_getElem.1 (List.pairwise_map.1 o.lev)) k (k + i) hk (by omega) (by omega)
   rw [e, hkx] at p1
   omega
 have hwk : ∀ m, T.live m → m ∉ T.short → m ∉ T.weak → ∀ y ∈ T.levels, y.2 ≤ x.1 → y.1 ≤ x.1 → Wk (T.lits.take x.1) (T.cl m) y.2 y.1 := by
  intro m h1 h2 h3 y hy e1 e2
  have := h.lev m h1 h2 h3 y hy
  exact ⟨this.two, fun ha => by rw [take_take_le _ e1] at ha; rw [take_take_le _ e2]; exact this.a ha, fun hb => by rw [take_take_le _ e1] at hb; rw [take_take_le _ e2]; exact this.b hb⟩
 have hsh : ∀ m, m ∉ (T.backTo k).short → m ∉ T.short ∧ m ∉ T.weak := fun m hm => by
  rw [hB] at hm
  have hm : m ∉ T.short ++ T.weak := hm
  rw [List.mem_append, not_or] at hm; exact hm
 have hcl : ∀ m, (T.backTo k).cl m = T.cl m := fun m => rfl
 have hliv : ∀ m, (T.backTo k).live m → T.live m := fun m hm => hm
 refine ⟨⟨o.n, o.gl, o.wl, o.cls, o.cb, ?_, fun y hy => ?_, ?_, ?_, fun y hy => ?_, fun y hy => ?_⟩, ⟨h.wat.nd, h.wat.snd, h.wat.cpl⟩, fun m hm hs => ?_, fun m hm hs hw => ?_, fun m hm hs hw y hy => ?_, fun y hy => ?_, ?_, fun i hi => ?_, fun i hi => ?_, fun i hi => ?_, ?_⟩
 ·rw [hlits]
  exact ⟨fun y hy => o.good.lit y (List.mem_of_mem_take hy), by rw [List.map_take]; exact (List.take_sublist _ _).nodup o.good.nod⟩
 ·rw [hB] at hy
  have hy : y ∈ (T.short ++ T.weak) ++ [] := hy
  rw [List.append_nil] at hy
  exact o.sm y hy
 ·rw [hel, hB]; exact hxn.1
 ·rw [hlv, List.map_take]; exact o.lev.sublist (List.take_sublist _ _)
 ·rw [hlv] at hy
  rw [hel]; exact (hpre y hy).1
 ·rw [hents] at hy
  rw [hlv, List.length_take]
  obtain ⟨i, hi, e⟩ := List.getElem_of_mem hy
  have hi' := hi
  rw [List.length_take] at hi'
  rw [List.getElem_take] at e
  have hr := o.rea y (by rw [← e]; exact List.getElem_mem _)
  have hlvl := h.lvl i (by omega)
  have he : T.ent i = y := by unfold Trail.ent; rw [List.getD_eq_getElem?_getD, List.getElem?_eq_getElem (by omega)]; exact e
  rw [he] at hlvl
  refine ⟨hr.1, hr.2.1, ?_⟩
  have hsplit : T.levels.filter (fun z => Decidable.decide (z.1 ≤ i)) = (T.levels.take k).filter (fun z => Decidable.decide (z.1 ≤ i)) := by
   conv => lhs; rw [← List.take_append_drop k T.levels, List.filter_append]
   have : (T.levels.drop k).filter (fun z => Decidable.decide (z.1 ≤ i)) = [] := by
    rw [List.filter_eq_nil_iff]
    intro z hz
    have := hpost z hz
    simp; omega
   rw [this, List.append_nil]
  rw [hsplit] at hlvl
  have := List.length_filter_le (fun z => Decidable.decide (z.1 ≤ i)) (T.levels.take k)
  rw [List.length_take] at this
  omega
 ·obtain ⟨h2, h3⟩ := hsh m hs
  rw [hlits, hel, hcl]
  have hnx : (T.backTo k).next = x.2 := by rw [hB]
  rw [hnx]
  exact .inl (hwk m (hliv m hm) h2 h3 x hxm hxn.1 (Nat.le_refl _))
 ·obtain ⟨h2, h3⟩ := hsh m hs
  exact h.two m (hliv m hm) h2 h3
 ·obtain ⟨h2, h3⟩ := hsh m hs
  rw [hlv] at hy
  rw [hlits, hcl]
  have hp := hpre y hy
  have hym : y ∈ T.levels := List.mem_of_mem_take hy
  exact hwk m (hliv m hm) h2 h3 y hym (by have := (h.nx y hym).1; omega) (by omega)
 ·rw [hlv] at hy
  have hym : y ∈ T.levels := List.mem_of_mem_take hy
  refine ⟨(h.nx y hym).1, ?_⟩
  rw [hB]; exact (hpre y hy).2
 ·rw [hlv]; exact h.nm.sublist (List.take_sublist _ _)
 ·rw [hel] at hi
  rw [hent i hi, hlits]
  rcases h.rea i (by omega) with h1 | ⟨h1, h2, h3⟩
  ·exact .inl h1
  ·refine .inr ⟨h1, h2, h3.mem, fun y hy hne => ?_⟩
   rw [take_take_le _ (by omega)]
   exact h3.oth y hy hne
 ·rw [hel] at hi
  rw [hent i hi, hlv, h.dec i (by omega)]
  constructor
  ·rintro ⟨y, hy, e⟩
   rw [← List.take_append_drop k T.levels] at hy
   rcases List.mem_append.1 hy with hy | hy
   ·exact ⟨y, hy, e⟩
   ·have := hpost y hy; omega
  ·rintro ⟨y, hy, e⟩; exact ⟨y, List.mem_of_mem_take hy, e⟩
 ·rw [hel] at hi
  rw [hent i hi, hlv, h.lvl i (by omega)]
  congr 1
  conv => lhs; rw [← List.take_append_drop k T.levels, List.filter_append]
  have : (T.levels.drop k).filter (fun z => Decidable.decide (z.1 ≤ i)) = [] := by
   rw [List.filter_eq_nil_iff]
   intro z hz
   have := hpost z hz
   simp; omega
  rw [this, List.append_nil]
 ·rw [hB]
  show ((T.short ++ T.weak) ++ []).Nodup
  rw [List.append_nil]; exact h.sn
theorem Inv.back {T : Trail} (h : Inv T) (to : Int) : Inv (T.back to) := by
 unfold Trail.back
 split
 ·rename_i hk; exact h.backTo hk
 ·exact h
end Tr
namespace Tr
open Cnf Up
def Like (cs ds : List (List Int)) : Prop := ∀ c ∈ cs, ∃ d ∈ ds, c.Perm d
theorem Like.refl (cs : List (List Int)) : Like cs cs := fun c hc => ⟨c, hc, List.Perm.refl _⟩
theorem der_like {l l' : List Int} {cs ds : List (List Int)} {x : Int} (h : Der l cs x) (hl : ∀ y ∈ l, y ∈ l') (hc : Like cs ds) : Der l' ds x :=
 fun P h1 h2 => h P (fun y hy => h1 y (hl y hy)) (fun c hcm z hz hh => by
  obtain ⟨d, hd, p⟩ := hc c hcm
  exact h2 d hd z (p.mem_iff.1 hz) (fun y hy hn => hh y (p.mem_iff.2 hy) hn))
theorem ent_lit (T : Trail) (i : Nat) : (T.ent i).1 = T.lits.getD i 0 := by
 unfold Trail.ent Trail.lits
 rw [List.getD_eq_getElem?_getD, List.getD_eq_getElem?_getD, List.getElem?_map]
 cases T.ents[i]? <;> rfl
end Tr
namespace Tr
open Cnf
end Tr
end Go.Proofs.YtjedgdamommgeaaGreat

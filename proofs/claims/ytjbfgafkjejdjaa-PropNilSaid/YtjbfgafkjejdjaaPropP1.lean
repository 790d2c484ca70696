/- The watched literals of a trail, in plain Lean: what keeps 'Wat'. -/
import Derived.Test.YtjbfgafkjejdjaaProp5
namespace Go.Proofs.Ytjbfgafkjejdjaa
namespace Tr
open Cnf

theorem setW_wt {T : Trail} {p : Nat} (hp : p < T.watch.length) (l : List Nat) (q : Nat) : (T.setW p l).wt q = if q = p then l else T.wt q := by
  unfold Trail.setW Trail.wt
  by_cases e : q = p
  · subst e; rw [if_pos rfl]; exact getD_set1 hp _ _
  · rw [if_neg e]; exact getD_set2 (fun h => e h.symm) _ _
theorem setC_cl {T : Trail} {k : Nat} (hk : k < T.cls.length) (c : List Int) (m : Nat) : (T.setC k c).cl m = if m = k then c else T.cl m := by
  unfold Trail.setC Trail.cl
  by_cases e : m = k
  · subst e; rw [if_pos rfl]; exact getD_set1 hk _ _
  · rw [if_neg e]; exact getD_set2 (fun h => e h.symm) _ _

theorem place_ne {x y : Int} (hx : x ≠ 0) (hy : y ≠ 0) (h : x ≠ y) : place x ≠ place y := fun e => h (Rup.place_inj hx hy e)

/-- places of a clause whose atoms are apart -/
theorem good_ne {n : Nat} {c : List Int} (h : Up.Good n c) {i j : Nat} (hi : i < c.length) (hj : j < c.length) (e : i ≠ j) : (c.getD i 0).natAbs ≠ (c.getD j 0).natAbs := by
  have hP := List.pairwise_iff_getElem.1 (List.pairwise_map.1 h.nod)
  have e1 : c.getD i 0 = c[i] := by simp [List.getD_eq_getElem?_getD, hi]
  have e2 : c.getD j 0 = c[j] := by simp [List.getD_eq_getElem?_getD, hj]
  rw [e1, e2]
  rcases Nat.lt_or_ge i j with h' | h'
  · exact hP i j hi hj h'
  · exact fun e' => hP j i hj hi (by omega) e'.symm

theorem good_perm {n : Nat} {c d : List Int} (h : Up.Good n c) (hp : d.Perm c) : Up.Good n d :=
  ⟨fun x hx => h.lit x (hp.mem_iff.1 hx), (hp.map _).nodup_iff.2 h.nod⟩

theorem swapL_get (c : List Int) {i j : Nat} (hi : i < c.length) (hj : j < c.length) (m : Nat) : (swapL c i j).getD m 0 = if m = j then c.getD i 0 else if m = i then c.getD j 0 else c.getD m 0 := by
  unfold swapL
  by_cases e : m = j
  · subst e; rw [if_pos rfl, getD_set1 (by simpa using hj)]
  · rw [if_neg e, getD_set2 (fun h => e h.symm)]
    by_cases e2 : m = i
    · subst e2; rw [if_pos rfl, getD_set1 hi]
    · rw [if_neg e2, getD_set2 (fun h => e2 h.symm)]

theorem swapL_perm (c : List Int) {i j : Nat} (hi : i < c.length) (hj : j < c.length) : (swapL c i j).Perm c := by
  have e1 : c.getD j 0 = c[j] := by simp [List.getD_eq_getElem?_getD, hj]
  have e2 : c.getD i 0 = c[i] := by simp [List.getD_eq_getElem?_getD, hi]
  unfold swapL
  rw [e1, e2]
  rcases Nat.lt_trichotomy i j with h | h | h
  · exact List.set_set_perm hi hj
  · subst h; simp
  · rw [List.set_comm _ _ (by omega)]
    exact List.set_set_perm hj hi

theorem turn_perm (l : Int) (c : List Int) : (turn l c).Perm c := by
  unfold turn
  split
  · rename_i h; exact swapL_perm c (by omega) h.1
  · exact List.Perm.refl _
theorem turn_len (l : Int) (c : List Int) : (turn l c).length = c.length := (turn_perm l c).length_eq

theorem Ok.setC {T : Trail} (o : Ok T) {k : Nat} {c : List Int} (hc : Up.Good T.n c) : Ok (T.setC k c) := by
  refine ⟨o.n, by simp [Trail.setC, o.gl], o.wl, fun d hd => ?_, by simpa [Trail.setC] using o.cb, o.good, by simpa [Trail.setC] using o.sm, o.next, o.lev, o.lin, o.rea⟩
  rcases List.mem_or_eq_of_mem_set hd with h | h
  · exact o.cls d h
  · rw [h]; exact hc
theorem Ok.setW {T : Trail} (o : Ok T) (p : Nat) (l : List Nat) : Ok (T.setW p l) :=
  ⟨o.n, o.gl, by simp [Trail.setW, o.wl], o.cls, o.cb, o.good, o.sm, o.next, o.lev, o.lin, o.rea⟩

/-- a list of what watches is asked only through its members and that none stands twice -/
theorem Wat.of {T U : Trail} (h : Wat T) (hl : U.cls.length = T.cls.length) (hg : U.gone = T.gone) (hn : ∀ p, (U.wt p).Nodup)
    (hm : ∀ p k, k ∈ U.wt p ↔ (k ∈ T.wt p ∧ U.cl k = T.cl k) ∨ (k < T.cls.length ∧ T.gone.getD k true = false ∧ U.cl k ≠ T.cl k ∧ ∃ i, i < 2 ∧ i < (U.cl k).length ∧ place ((U.cl k).getD i 0) = p)) : Wat U := by
  refine ⟨hn, fun p k hk => ?_, fun k hk hgk i hi hi2 => ?_⟩
  · rcases (hm p k).1 hk with ⟨h1, h2⟩ | ⟨h1, h2, h3, h4⟩
    · have := h.snd p k h1
      rw [hl, hg, h2]; exact this
    · rw [hl, hg]; exact ⟨h1, h2, h4⟩
  · rw [hl] at hk
    rw [hg] at hgk
    rw [hm]
    by_cases e : U.cl k = T.cl k
    · refine .inl ⟨?_, e⟩
      rw [e] at hi2 ⊢
      exact h.cpl k hk hgk i hi hi2
    · exact .inr ⟨hk, hgk, e, i, hi, hi2, rfl⟩

/-- a clause turned by its first two literals -/
theorem Wat.turn {T : Trail} (h : Wat T) {k : Nat} (hk : k < T.cls.length) (l : Int) : Wat (T.setC k (Tr.turn l (T.cl k))) := by
  have hcl := setC_cl hk (Tr.turn l (T.cl k))
  have key : ∀ p, (∃ i, i < 2 ∧ i < (Tr.turn l (T.cl k)).length ∧ place ((Tr.turn l (T.cl k)).getD i 0) = p) ↔ ∃ i, i < 2 ∧ i < (T.cl k).length ∧ place ((T.cl k).getD i 0) = p := by
    intro p
    unfold Tr.turn
    by_cases c : 1 < (T.cl k).length ∧ (T.cl k).getD 0 0 = l
    · rw [if_pos c]
      have hg := swapL_get (T.cl k) (i := 0) (j := 1) (by omega) c.1
      rw [swapL_len]
      constructor
      · rintro ⟨i, h1, h2, h3⟩
        rw [hg] at h3
        match i, h1 with
        | 0, _ => exact ⟨1, by omega, c.1, by simpa using h3⟩
        | 1, _ => exact ⟨0, by omega, by omega, by simpa using h3⟩
      · rintro ⟨i, h1, h2, h3⟩
        match i, h1 with
        | 0, _ => exact ⟨1, by omega, c.1, by rw [hg]; simpa using h3⟩
        | 1, _ => exact ⟨0, by omega, by omega, by rw [hg]; simpa using h3⟩
    · rw [if_neg c]
  refine h.of (by simp [Trail.setC]) rfl h.nd (fun p m => ?_)
  show m ∈ T.wt p ↔ _
  rw [hcl]
  by_cases e : m = k
  · subst e
    rw [if_pos rfl]
    by_cases e2 : Tr.turn l (T.cl m) = T.cl m
    · simp [e2]
    · constructor
      · intro hm
        have := h.snd p m hm
        exact .inr ⟨this.1, this.2.1, e2, (key p).2 this.2.2⟩
      · rintro (⟨h1, _⟩ | ⟨h1, h2, _, h4⟩)
        · exact h1
        · obtain ⟨i, h5, h6, h7⟩ := (key p).1 h4
          rw [← h7]; exact h.cpl m h1 h2 i h5 h6
  · rw [if_neg e]; simp

/-- where a literal that is watched stands behind the turn -/
theorem turn_at {n : Nat} {l : Int} {c : List Int} (h : Up.Good n c) (h1 : 1 < c.length) (hl : ∃ i, i < 2 ∧ i < c.length ∧ c.getD i 0 = l) :
    (turn l c).getD 1 0 = l ∧ (∀ j, 2 ≤ j → (turn l c).getD j 0 = c.getD j 0) ∧ (turn l c).getD 0 0 ≠ l ∧ (∀ x, (∃ i, i < 2 ∧ i < c.length ∧ c.getD i 0 = x) ↔ x = l ∨ x = (turn l c).getD 0 0) := by
  have hne := good_ne h (i := 0) (j := 1) (by omega) h1 (by decide)
  unfold turn
  by_cases e0 : c.getD 0 0 = l
  · rw [if_pos ⟨h1, e0⟩]
    have hg := swapL_get c (i := 0) (j := 1) (by omega) h1
    refine ⟨by rw [hg]; simpa using e0, fun j hj => by rw [hg, if_neg (by omega), if_neg (by omega)], ?_, fun x => ?_⟩
    · rw [hg]; simp only [Nat.zero_ne_one, if_false, if_true]
      intro e; rw [e0, e] at hne; exact hne rfl
    · rw [hg]; simp only [Nat.zero_ne_one, if_false, if_true]
      constructor
      · rintro ⟨i, hi, _, rfl⟩
        match i, hi with
        | 0, _ => exact .inl e0
        | 1, _ => exact .inr rfl
      · rintro (rfl | rfl)
        · exact ⟨0, by omega, by omega, e0⟩
        · exact ⟨1, by omega, h1, rfl⟩
  · rw [if_neg (fun h => e0 h.2)]
    have e1 : c.getD 1 0 = l := by
      obtain ⟨i, hi, _, h3⟩ := hl
      match i, hi with
      | 0, _ => exact absurd h3 e0
      | 1, _ => exact h3
    refine ⟨e1, fun _ _ => rfl, e0, fun x => ?_⟩
    constructor
    · rintro ⟨i, hi, _, rfl⟩
      match i, hi with
      | 0, _ => exact .inr rfl
      | 1, _ => exact .inl e1
    · rintro (rfl | rfl)
      · exact ⟨1, by omega, h1, e1⟩
      · exact ⟨0, by omega, by omega, rfl⟩

/-- a clause that is watched by another literal instead -/
theorem Wat.move {T : Trail} (o : Ok T) {l : Int} (hl : l ≠ 0 ∧ l.natAbs ≤ T.n) {kept r : List Nat} {k j : Nat} (hk : k < T.cls.length) (h : Wat (T.setW (place l) (kept ++ k :: r))) (h1 : 1 < (T.cl k).length) (j2 : 2 ≤ j) (jl : j < (T.cl k).length) :
    Wat (((T.setC k (Tr.turn l (T.cl k))).moveTo k j).setW (place l) (kept ++ r)) := by
  have hpl : place l < T.watch.length := by rw [o.wl]; exact Rup.place_lt hl
  have hgc := o.cl hk
  have hwt : ∀ q, (T.setW (place l) (kept ++ k :: r)).wt q = if q = place l then kept ++ k :: r else T.wt q := setW_wt hpl _
  have hin : k ∈ (T.setW (place l) (kept ++ k :: r)).wt (place l) := by rw [hwt, if_pos rfl]; simp
  obtain ⟨-, hgk, i0, i1, i2, i3⟩ := h.snd _ _ hin
  have hi3 : (T.cl k).getD i0 0 = l := Rup.place_inj (hgc.lit _ (getD_mem' 0 i2)).1 hl.1 i3
  obtain ⟨t1, tj, t0, tx⟩ := turn_at hgc h1 ⟨i0, i1, i2, hi3⟩
  obtain ⟨d, hd⟩ : ∃ d, Tr.turn l (T.cl k) = d := ⟨_, rfl⟩
  have hdl : d.length = (T.cl k).length := by rw [← hd]; exact turn_len l _
  have hgd : Up.Good T.n d := by rw [← hd]; exact good_perm hgc (turn_perm l _)
  rw [hd] at t1 tj t0 tx ⊢
  have hs := swapL_get d (i := 1) (j := j) (by omega) (by omega)
  have hU1 : (T.setC k d).cl k = d := by rw [setC_cl hk, if_pos rfl]
  have hx : (swapL ((T.setC k d).cl k) 1 j).getD 1 0 = d.getD j 0 := by rw [hU1, hs, if_neg (by omega), if_pos rfl]
  obtain ⟨q, hq⟩ : ∃ q, place (d.getD j 0) = q := ⟨_, rfl⟩
  have hdj := hgd.lit _ (getD_mem' 0 (show j < d.length by omega))
  have hd0 := hgd.lit _ (getD_mem' 0 (show 0 < d.length by omega))
  have qne : q ≠ place l := by
    rw [← hq, ← t1]
    exact place_ne hdj.1 (by rw [t1]; exact hl.1) (fun e => good_ne hgd (show j < d.length by omega) (show 1 < d.length by omega) (by omega) (by rw [e]))
  have qn0 : q ≠ place (d.getD 0 0) := by
    rw [← hq]
    exact place_ne hdj.1 hd0.1 (fun e => good_ne hgd (show j < d.length by omega) (show 0 < d.length by omega) (by omega) (by rw [e]))
  have pn0 : place l ≠ place (d.getD 0 0) := place_ne hl.1 hd0.1 (fun e => t0 e.symm)
  have hql : q < T.watch.length := by rw [o.wl, ← hq]; exact Rup.place_lt hdj
  have hwt2 : ∀ p, (((T.setC k d).moveTo k j).setW (place l) (kept ++ r)).wt p = if p = place l then kept ++ r else if p = q then T.wt q ++ [k] else T.wt p := by
    intro p
    rw [setW_wt (by unfold Trail.moveTo; simpa [Trail.setC] using hpl)]
    by_cases e : p = place l
    · rw [if_pos e, if_pos e]
    · rw [if_neg e, if_neg e]
      unfold Trail.moveTo Trail.wt
      simp only [hx, hq]
      by_cases e2 : p = q
      · subst e2; rw [if_pos rfl, getD_set1 (by simpa [Trail.setC] using hql)]; rfl
      · rw [if_neg e2, getD_set2 (fun h => e2 h.symm)]; rfl
  have hcl2 : ∀ m, (((T.setC k d).moveTo k j).setW (place l) (kept ++ r)).cl m = if m = k then swapL d 1 j else T.cl m := by
    intro m
    show ((T.setC k d).moveTo k j).cl m = _
    unfold Trail.moveTo Trail.cl
    by_cases e : m = k
    · subst e
      rw [if_pos rfl, getD_set1 (by simpa [Trail.setC] using hk)]
      rw [show (T.setC m d).cls.getD m [] = (T.setC m d).cl m from rfl, hU1]
    · rw [if_neg e, getD_set2 (fun h => e h.symm)]
      simp only [Trail.setC]
      rw [getD_set2 (fun h => e h.symm)]
  have hnd := h.nd (place l)
  rw [hwt, if_pos rfl] at hnd
  have hnk : k ∉ kept ++ r := by
    rw [List.nodup_append] at hnd
    intro hm
    rcases List.mem_append.1 hm with hm | hm
    · exact hnd.2.2 k hm k List.mem_cons_self rfl
    · exact (List.nodup_cons.1 hnd.2.1).1 hm
  have hkq : k ∉ T.wt q := by
    intro hm
    have hm2 : k ∈ (T.setW (place l) (kept ++ k :: r)).wt q := by rw [hwt, if_neg qne]; exact hm
    obtain ⟨-, -, i, h5, h6, h7⟩ := h.snd _ _ hm2
    have hxx := (tx ((T.cl k).getD i 0)).1 ⟨i, h5, h6, rfl⟩
    have h7' : place ((T.cl k).getD i 0) = q := h7
    rcases hxx with e | e
    · rw [e] at h7'; exact qne h7'.symm
    · rw [e] at h7'; exact qn0 h7'.symm
  refine h.of (by simp [Trail.setW, Trail.moveTo, Trail.setC]) rfl (fun p => ?_) (fun p m => ?_)
  · rw [hwt2]
    split
    · exact (List.Sublist.append_left (List.sublist_cons_self k r) kept).nodup hnd
    · rename_i e1
      split
      · have := h.nd q
        rw [hwt, if_neg qne] at this
        rw [List.nodup_append]
        exact ⟨this, by simp, fun a ha b hb e => by simp at hb; subst hb; subst e; exact hkq ha⟩
      · have := h.nd p
        rw [hwt, if_neg e1] at this
        exact this
  · rw [hwt2, hcl2, hwt]
    show _ ↔ (_ ∧ _ = T.cl m) ∨ (m < T.cls.length ∧ T.gone.getD m true = false ∧ _ ≠ T.cl m ∧ _)
    by_cases e : m = k
    · subst e
      rw [if_pos rfl]
      have hne : swapL d 1 j ≠ T.cl m := by
        intro e
        have h8 : (swapL d 1 j).getD 1 0 = (T.cl m).getD 1 0 := by rw [e]
        rw [hs, if_neg (by omega), if_pos rfl, tj j j2] at h8
        exact good_ne hgc jl h1 (by omega) (by rw [h8])
      have hr : (∃ i, i < 2 ∧ i < (swapL d 1 j).length ∧ place ((swapL d 1 j).getD i 0) = p) ↔ p = place (d.getD 0 0) ∨ p = q := by
        rw [swapL_len]
        constructor
        · rintro ⟨i, h5, _, h7⟩
          match i, h5 with
          | 0, _ => rw [hs, if_neg (by omega), if_neg (by omega)] at h7; exact .inl h7.symm
          | 1, _ => rw [hs, if_neg (by omega), if_pos rfl, hq] at h7; exact .inr h7.symm
        · rintro (e | e)
          · exact ⟨0, by omega, by omega, by rw [hs, if_neg (by omega), if_neg (by omega)]; exact e.symm⟩
          · exact ⟨1, by omega, by omega, by rw [hs, if_neg (by omega), if_pos rfl, hq]; exact e.symm⟩
      rw [hr]
      by_cases e1 : p = place l
      · rw [if_pos e1]
        constructor
        · intro hm; exact absurd hm hnk
        · rintro (⟨_, h5⟩ | ⟨_, _, _, h5 | h5⟩)
          · exact absurd h5 hne
          · exact absurd (e1.symm.trans h5) pn0
          · exact absurd (h5.symm.trans e1) qne
      · rw [if_neg e1]
        by_cases e2 : p = q
        · rw [if_pos e2]
          exact ⟨fun _ => .inr ⟨hk, hgk, hne, .inr e2⟩, fun _ => by simp⟩
        · rw [if_neg e2]
          constructor
          · intro hm
            have hm2 : m ∈ (T.setW (place l) (kept ++ m :: r)).wt p := by rw [hwt, if_neg e1]; exact hm
            obtain ⟨-, -, i, h5, h6, h7⟩ := h.snd _ _ hm2
            refine .inr ⟨hk, hgk, hne, .inl ?_⟩
            have h7' : place ((T.cl m).getD i 0) = p := h7
            rcases (tx ((T.cl m).getD i 0)).1 ⟨i, h5, h6, rfl⟩ with e | e
            · rw [e] at h7'; exact absurd h7'.symm e1
            · rw [e] at h7'; exact h7'.symm
          · rintro (⟨_, h5⟩ | ⟨_, _, _, h5 | h5⟩)
            · exact absurd h5 hne
            · obtain ⟨i, h6, h7, h8⟩ := (tx (d.getD 0 0)).2 (.inr rfl)
              have := h.cpl m hk hgk i h6 h7
              have e9 : place (((T.setW (place l) (kept ++ m :: r)).cl m).getD i 0) = p := by
                show place ((T.cl m).getD i 0) = p
                rw [h8]; exact h5.symm
              rw [e9, hwt, if_neg e1] at this
              exact this
            · exact absurd h5 e2
    · rw [if_neg e]
      have : (m < T.cls.length ∧ T.gone.getD m true = false ∧ T.cl m ≠ T.cl m ∧ ∃ i, i < 2 ∧ i < (T.cl m).length ∧ place ((T.cl m).getD i 0) = p) ↔ False := ⟨fun h => h.2.2.1 rfl, False.elim⟩
      rw [this, or_false, and_iff_left rfl]
      by_cases e1 : p = place l
      · rw [if_pos e1, if_pos e1]; simp [e]
      · rw [if_neg e1, if_neg e1]
        by_cases e2 : p = q
        · rw [if_pos e2, e2]; simp [e]
        · rw [if_neg e2]

end Tr
end Go.Proofs.Ytjbfgafkjejdjaa

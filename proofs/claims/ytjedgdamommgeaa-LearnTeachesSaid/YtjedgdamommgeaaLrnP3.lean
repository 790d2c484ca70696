/- What a literal comes of; of how many levels a clause is; what the models of the clauses have to do with it: laws. Plain Lean. -/
import Derived.Test.YtjedgdamommgeaaLrnP2
set_option linter.unusedVariables false
namespace Go.Proofs.Ytjedgdamommgeaa
open Go.RowKit
open Tr

namespace Tr
open Cnf Up

theorem needs_sub (l : List Int) : ∀ (ks : List Int) (a : Int), a ∈ ks ∨ (∃ y ∈ l, absW y = a) → a ∈ needs ks l := by
  induction l with
  | nil => intro ks a h; rcases h with h | ⟨y, hy, _⟩; exact h; cases hy
  | cons x r ih =>
    intro ks a h
    show a ∈ needs (addK ks (absW x)) r
    apply ih
    rcases h with h | ⟨y, hy, e⟩
    · exact .inl (mem_addK.2 (.inl h))
    · rcases List.mem_cons.1 hy with rfl | hy
      · exact .inl (mem_addK.2 (.inr e.symm))
      · exact .inr ⟨y, hy, e⟩

theorem why_law {T : Trail} (h : Inv T) (hh : T.held) {D : List (List Int)} (hD : T.among D) : ∀ (i : Nat) (ks us : List Int), i ≤ T.ents.length →
    ∃ r, (T.whyTo (T.lits.take i) (ks, us)).2 = us ++ r ∧ r.Sublist (T.lits.take i).reverse ∧ (∀ u ∈ r, T.lvl u ≠ 0 ∧ T.why u = -1) ∧ ∀ j, j < i → absW (T.lits.getD j 0) ∈ ks → Der (us ++ r) D (T.lits.getD j 0)
  | 0, ks, us, _ => ⟨[], by simp [Trail.whyTo], by simp, (fun u hu => by cases hu), fun j hj => by omega⟩
  | i + 1, ks, us, hi => by
    have hi' : i < T.ents.length := by omega
    have hlen := lits_len T
    rw [whyTo_snoc T _ (by omega)]
    have htk : (T.lits.take (i + 1)).reverse = T.lits.getD i 0 :: (T.lits.take i).reverse := by
      rw [take_snocI T.lits i (by omega), List.reverse_append]; rfl
    rw [htk]
    obtain ⟨x, hx⟩ : ∃ x, T.lits.getD i 0 = x := ⟨_, rfl⟩
    have hlx := at_pos h hi' (y := x) (by rw [hx])
    unfold Trail.whyStep
    rw [hx]
    split
    · rename_i hc
      obtain ⟨r, h1, h2, h3, h4⟩ := why_law h hh hD i ks us (by omega)
      refine ⟨r, h1, h2.trans (List.sublist_cons_self _ _), h3, fun j hj hk => ?_⟩
      rcases Nat.lt_or_ge j i with c | c
      · exact h4 j c hk
      · obtain rfl : j = i := by omega
        rw [hx] at hk ⊢
        rcases hc with hc | hc
        · exact absurd hk hc
        · have := der_zero h hh hD (A := us ++ r) (j + 1) j (by omega) hi' (by omega)
          rw [hx] at this; exact this
    · rename_i hc
      rw [not_or] at hc
      obtain ⟨hc1, hc2⟩ := hc
      rcases reason_of h hh hi' hx (z := x) rfl with ⟨hd, hr⟩ | ⟨l, hr, W⟩
      · rw [hr]
        obtain ⟨r, h1, h2, h3, h4⟩ := why_law h hh hD i ks (us ++ [x]) (by omega)
        refine ⟨x :: r, by rw [h1]; simp, h2.cons_cons _, fun u hu => ?_, fun j hj hk => ?_⟩
        · rcases List.mem_cons.1 hu with rfl | hu
          · exact ⟨hc2, by rw [hlx.2, hd]⟩
          · exact h3 u hu
        · have e : us ++ x :: r = us ++ [x] ++ r := by simp
          rw [e]
          rcases Nat.lt_or_ge j i with c | c
          · exact h4 j c hk
          · obtain rfl : j = i := by omega
            rw [hx]
            exact Der.base (by simp)
      · rw [hr]
        obtain ⟨r, h1, h2, h3, h4⟩ := why_law h hh hD i (needs ks l) us (by omega)
        refine ⟨r, h1, h2.trans (List.sublist_cons_self _ _), h3, fun j hj hk => ?_⟩
        rcases Nat.lt_or_ge j i with c | c
        · exact h4 j c (needs_sub l ks _ (.inl hk))
        · obtain rfl : j = i := by omega
          rw [hx]
          refine W.der h hh hD fun y hy => ?_
          obtain ⟨w1, w2⟩ := W.mem y hy
          obtain ⟨q, hq, e⟩ := (mem_takeI (Nat.le_of_lt hi')).1 w1
          have := h4 q hq (needs_sub l ks _ (.inr ⟨y, hy, by
            rw [e]
            have hl := h.ok.good.lit _ (List.mem_of_mem_take w1)
            rw [absW_lit (n := T.n) hl h.ok.n, absW_lit (n := T.n) (x := y) (by omega) h.ok.n]
            omega⟩))
          rw [e] at this; exact this

theorem sortA_perm (xs : List Int) : (sortA xs).Perm xs := List.mergeSort_perm _ _
theorem sortA_sorted (xs : List Int) : (sortA xs).Pairwise fun x y => absW x ≤ absW y := by
  have := List.pairwise_mergeSort (le := fun x y => !(ltOf cfA) y x) (by
    intro a b c h1 h2
    simp only [Bool.not_eq_true'] at h1 h2 ⊢
    exact swoA.ntrans c b a h2 h1) (by
    intro a b
    cases h : (ltOf cfA) b a with
    | false => simp
    | true =>
      have h1 := h
      rw [ltA, decide_eq_true_eq] at h1
      have h2 : (ltOf cfA) a b = false := by rw [ltA, decide_eq_false_iff_not]; omega
      simp [h2]) xs
  refine this.imp fun {x y} hxy => ?_
  simp only [Bool.not_eq_true', ltA, decide_eq_false_iff_not] at hxy
  omega

/-- WHAT A LITERAL COMES OF. -/
theorem whyL_law {T : Trail} (h : Inv T) (hh : T.held) {D : List (List Int)} (hD : T.among D) {x : Int} (hx : x ∈ T.lits) :
    (∀ u ∈ T.whyL x, u ∈ T.lits ∧ 0 < T.lvl u ∧ T.why u = -1) ∧ ((T.whyL x).Pairwise fun a b => a.natAbs < b.natAbs) ∧ Der (T.whyL x) D x := by
  have hv : T.val x = 1 := h.ok.one.2 hx
  obtain ⟨r, h1, h2, h3, h4⟩ := why_law h hh hD T.ents.length [absW x] [] (Nat.le_refl _)
  rw [List.take_of_length_le (by rw [lits_len]; exact Nat.le_refl _)] at h1 h2
  have hw : T.whyL x = sortA r := by
    unfold Trail.whyL
    rw [if_neg (by omega), h1]; rfl
  have hp := sortA_perm r
  have hin : ∀ u ∈ r, u ∈ T.lits := fun u hu => by simpa using h2.subset hu
  have hlv : ∀ u ∈ r, 0 < T.lvl u := fun u hu => by
    obtain ⟨i, hi, e⟩ := lits_at (hin u hu)
    have := (at_pos h hi (y := u) (by rw [e])).1
    have := (h3 u hu).1
    omega
  rw [hw]
  refine ⟨fun u hu => ?_, ?_, ?_⟩
  · have hu' := hp.mem_iff.1 hu
    exact ⟨hin u hu', hlv u hu', (h3 u hu').2⟩
  · have hnd : ((sortA r).map Int.natAbs).Nodup := by
      have hr : (r.map Int.natAbs).Nodup := by
        have hn2 := h.ok.good.nod
        have hsub := h2.map Int.natAbs
        refine hsub.nodup ?_
        rw [List.map_reverse]
        exact (List.reverse_perm _).nodup_iff.2 hn2
      exact ((hp.map Int.natAbs).nodup_iff).2 hr
    have hs := sortA_sorted r
    have hnd' : (sortA r).Pairwise fun a b => a.natAbs ≠ b.natAbs := List.pairwise_map.1 hnd
    refine (hs.and hnd').imp_of_mem fun {a b} ha hb hab => ?_
    have h5 := h.ok.good.lit _ (hin a (hp.mem_iff.1 ha))
    have h6 := h.ok.good.lit _ (hin b (hp.mem_iff.1 hb))
    obtain ⟨h7, h8⟩ := hab
    rw [absW_lit (n := T.n) h5 h.ok.n, absW_lit (n := T.n) h6 h.ok.n] at h7
    omega
  · obtain ⟨i, hi, e⟩ := lits_at hx
    have := h4 i hi (by rw [e]; simp)
    rw [e] at this
    exact der_like this (fun y hy => hp.mem_iff.2 (by simpa using hy)) (Like.refl _)

/-- the levels, counted one by one -/
def Trail.freshAt (T : Trail) (l : List Int) (i : Nat) : Bool := decide (0 ≤ T.lvl (l.getD i 0)) && (l.take i).all fun m => decide (T.lvl m ≠ T.lvl (l.getD i 0))
def Trail.count (T : Trail) (l : List Int) : Nat → Nat
  | 0 => 0
  | k + 1 => T.count l k + if T.freshAt l k then 1 else 0

theorem mem_levs (T : Trail) (l : List Int) : ∀ v, v ∈ T.levs l ↔ 0 ≤ v ∧ ∃ m ∈ l, T.lvl m = v := by
  suffices hs : ∀ (l ks : List Int) (v : Int), v ∈ l.foldl T.lev1 ks ↔ v ∈ ks ∨ (0 ≤ v ∧ ∃ m ∈ l, T.lvl m = v) by
    intro v
    unfold Trail.levs
    rw [hs]
    simp
  intro l
  induction l with
  | nil => intro ks v; simp
  | cons x r ih =>
    intro ks v
    rw [List.foldl_cons, ih]
    unfold Trail.lev1
    constructor
    · rintro (h1 | ⟨h1, m, h2, h3⟩)
      · split at h1
        · rename_i hx
          rcases mem_addK.1 h1 with h1 | rfl
          · exact .inl h1
          · exact .inr ⟨hx, x, by simp, rfl⟩
        · exact .inl h1
      · exact .inr ⟨h1, m, by simp [h2], h3⟩
    · rintro (h1 | ⟨h1, m, h2, h3⟩)
      · left
        split
        · exact mem_addK.2 (.inl h1)
        · exact h1
      · rcases List.mem_cons.1 h2 with rfl | h2
        · left
          rw [if_pos (by omega)]
          exact mem_addK.2 (.inr h3.symm)
        · exact .inr ⟨h1, m, h2, h3⟩

theorem count_levs (T : Trail) (l : List Int) : ∀ k, k ≤ l.length → T.count l k = (T.levs (l.take k)).length
  | 0, _ => by simp [Trail.count, Trail.levs]
  | k + 1, hk => by
    have ih := count_levs T l k (by omega)
    rw [take_snocI l k (by omega), levs_snoc]
    unfold Trail.count
    rw [ih]
    unfold Trail.lev1 addK Trail.freshAt
    by_cases h0 : 0 ≤ T.lvl (l.getD k 0)
    · rw [if_pos h0, decide_eq_true h0]
      by_cases hm : T.lvl (l.getD k 0) ∈ T.levs (l.take k)
      · rw [if_pos hm]
        obtain ⟨_, m, h1, h2⟩ := (mem_levs T _ _).1 hm
        have : ((l.take k).all fun m => decide (T.lvl m ≠ T.lvl (l.getD k 0))) = false := by
          rw [List.all_eq_false]
          exact ⟨m, h1, by simp [h2]⟩
        rw [this]; simp
      · rw [if_neg hm]
        have : ((l.take k).all fun m => decide (T.lvl m ≠ T.lvl (l.getD k 0))) = true := by
          rw [List.all_eq_true]
          intro m hm2
          rw [decide_eq_true_eq]
          exact fun e => hm ((mem_levs T _ _).2 ⟨h0, m, hm2, e⟩)
        rw [this]; simp
    · rw [if_neg h0, decide_eq_false h0]; simp

/-- all that is derived is so in each model -/
theorem der_sound {A : List Int} {D : List (List Int)} {M : Int → Prop} (hA : ∀ x ∈ A, M x) (hD : ∀ c ∈ D, ∃ x ∈ c, M x) (hM : ∀ x, M (-x) → ¬ M x) {x : Int} (h : Der A D x) : M x :=
  h M hA fun c hc z hz hh => by
    obtain ⟨y, hy, my⟩ := hD c hc
    by_cases e : y = z
    · subst e; exact my
    · exact absurd my (hM y (hh y hy e))
theorem conf_sound {A : List Int} {D : List (List Int)} {M : Int → Prop} (hA : ∀ x ∈ A, M x) (hD : ∀ c ∈ D, ∃ x ∈ c, M x) (hM : ∀ x, M (-x) → ¬ M x) (h : Conf A D) : False := by
  obtain ⟨c, hc, h2⟩ := h
  obtain ⟨y, hy, my⟩ := hD c hc
  exact hM y (der_sound hA hD hM (h2 y hy)) my
end Tr
end Go.Proofs.Ytjedgdamommgeaa

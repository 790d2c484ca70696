/- Looking at a clause that is new, following to the end: in plain Lean. -/
import Derived.Test.YtjbfgafkjejdjaaPropP3
namespace Go.Proofs.Ytjbfgafkjejdjaa
namespace Tr
open Cnf

/-! the best literals -/

theorem best_spec (T : Trail) (c : List Int) : ∀ (ks : List Nat) (b : Nat), (T.best c ks b = b ∨ T.best c ks b ∈ ks) ∧ T.rank (c.getD b 0) ≤ T.rank (c.getD (T.best c ks b) 0) ∧ ∀ k ∈ ks, T.rank (c.getD k 0) ≤ T.rank (c.getD (T.best c ks b) 0)
  | [], b => ⟨.inl rfl, Int.le_refl _, fun k hk => by cases hk⟩
  | k :: r, b => by
    unfold Trail.best
    by_cases h : T.rank (c.getD b 0) < T.rank (c.getD k 0)
    · rw [if_pos h]
      obtain ⟨h1, h2, h3⟩ := best_spec T c r k
      refine ⟨.inr ?_, by omega, fun m hm => ?_⟩
      · rcases h1 with h1 | h1
        · rw [h1]; exact List.mem_cons_self
        · exact List.mem_cons_of_mem _ h1
      · rcases List.mem_cons.1 hm with e | e
        · subst e; exact h2
        · exact h3 m e
    · rw [if_neg h]
      obtain ⟨h1, h2, h3⟩ := best_spec T c r b
      refine ⟨?_, h2, fun m hm => ?_⟩
      · rcases h1 with h1 | h1
        · exact .inl h1
        · exact .inr (List.mem_cons_of_mem _ h1)
      · rcases List.mem_cons.1 hm with e | e
        · subst e; omega
        · exact h3 m e

theorem bestAt_spec (T : Trail) {c : List Int} {i : Nat} (hi : i < c.length) : i ≤ T.bestAt c i ∧ T.bestAt c i < c.length ∧ ∀ j, i ≤ j → j < c.length → T.rank (c.getD j 0) ≤ T.rank (c.getD (T.bestAt c i) 0) := by
  unfold Trail.bestAt
  obtain ⟨h1, h2, h3⟩ := best_spec T c ((List.range c.length).drop (i + 1)) i
  refine ⟨?_, ?_, fun j j1 j2 => ?_⟩
  · rcases h1 with h1 | h1
    · omega
    · have := mem_range_drop.1 h1; omega
  · rcases h1 with h1 | h1
    · omega
    · have := mem_range_drop.1 h1; omega
  · by_cases e : j = i
    · subst e; exact h2
    · exact h3 j (mem_range_drop.2 ⟨by omega, j2⟩)

theorem rew1_perm (T : Trail) {c : List Int} {i : Nat} (hi : i < c.length) : (T.rew1 c i).Perm c := swapL_perm c hi (bestAt_spec T hi).2.1

/-- the first two are the best -/
structure Best (T : Trail) (c d : List Int) : Prop where
  perm : d.Perm c
  one : ∀ j, j < d.length → T.rank (d.getD j 0) ≤ T.rank (d.getD 0 0)
  two : ∀ j, 1 ≤ j → j < d.length → T.rank (d.getD j 0) ≤ T.rank (d.getD 1 0)

theorem rewatch_best (T : Trail) (c : List Int) : Best T c (T.rewatch c) := by
  unfold Trail.rewatch
  by_cases h0 : c.length = 0
  · have : c = [] := List.eq_nil_of_length_eq_zero h0
    subst this
    exact ⟨List.Perm.refl _, fun j hj => by simp at hj, fun j _ hj => by simp at hj⟩
  · have b0 := bestAt_spec T (c := c) (i := 0) (by omega)
    have g0 := swapL_get c (i := 0) (j := T.bestAt c 0) (by omega) b0.2.1
    have p0 := rew1_perm T (c := c) (i := 0) (by omega)
    have l0 : (T.rew1 c 0).length = c.length := p0.length_eq
    have m0 : ∀ j, j < c.length → T.rank ((T.rew1 c 0).getD j 0) ≤ T.rank ((T.rew1 c 0).getD 0 0) := by
      intro j hj
      have e0 : (T.rew1 c 0).getD 0 0 = c.getD (T.bestAt c 0) 0 := by
        unfold Trail.rew1; rw [g0]
        split
        · rename_i e; rw [← e]
        · rfl
      rw [e0]
      unfold Trail.rew1; rw [g0]
      split
      · exact b0.2.2 0 (by omega) (by omega)
      · split
        · exact b0.2.2 _ (by omega) b0.2.1
        · exact b0.2.2 j (by omega) hj
    by_cases h1 : c.length = 1
    · have e : min c.length 2 = 1 := by omega
      rw [e]
      show Best T c (T.rew1 c 0)
      exact ⟨p0, fun j hj => m0 j (by omega), fun j _ hj => by omega⟩
    · have e : min c.length 2 = 2 := by omega
      rw [e]
      show Best T c (T.rew1 (T.rew1 c 0) 1)
      obtain ⟨d, hd⟩ : ∃ d, T.rew1 c 0 = d := ⟨_, rfl⟩
      rw [hd] at p0 l0 m0 ⊢
      have b1 := bestAt_spec T (c := d) (i := 1) (by omega)
      have g1 := swapL_get d (i := 1) (j := T.bestAt d 1) (by omega) b1.2.1
      have p1 := rew1_perm T (c := d) (i := 1) (by omega)
      have l1 : (T.rew1 d 1).length = d.length := p1.length_eq
      have e0 : (T.rew1 d 1).getD 0 0 = d.getD 0 0 := by
        unfold Trail.rew1; rw [g1, if_neg (by omega), if_neg (by omega)]
      have e1 : (T.rew1 d 1).getD 1 0 = d.getD (T.bestAt d 1) 0 := by
        unfold Trail.rew1; rw [g1]
        split
        · rename_i e; rw [← e]
        · rfl
      refine ⟨p1.trans p0, fun j hj => ?_, fun j j1 hj => ?_⟩
      · rw [e0]
        unfold Trail.rew1; rw [g1]
        split
        · exact m0 _ (by omega)
        · split
          · exact m0 _ (by omega)
          · exact m0 j (by omega)
      · rw [e1]
        unfold Trail.rew1; rw [g1]
        split
        · exact b1.2.2 1 (by omega) (by omega)
        · split
          · exact b1.2.2 _ b1.1 b1.2.1
          · exact b1.2.2 j j1 (by omega)

theorem Ok.levn {T : Trail} (o : Ok T) : T.levels.length ≤ T.ents.length := by
  have h1 : (T.levels.map (·.1)).Nodup := o.lev.imp fun h => by omega
  have := nodup_lt h1 (n := T.ents.length) (fun x hx => by
    obtain ⟨y, hy, rfl⟩ := List.mem_map.1 hx
    exact o.lin y hy)
  simpa using this

theorem rank_hi {T : Trail} (o : Ok T) (x : Int) : (0 ≤ T.val x ↔ maxI - 1 ≤ T.rank x) := by
  have hn := o.n
  have hl := o.levn
  have hel := o.len
  unfold Trail.rank
  rcases val3 T x with h | h | h
  · rw [h]; simp
  · rw [h]; simp [maxI]
  · rw [h]
    simp only [show ¬ ((-1 : Int) = 1) by decide, show ¬ ((-1 : Int) = 0) by decide, if_false]
    have hb : (atomOf T.ents x.natAbs).2.1 ≤ 65536 := by
      by_cases hx : ∃ y ∈ T.ents, y.1.natAbs = x.natAbs
      · obtain ⟨y, hy, e⟩ := hx
        rw [← e, atomOf_mem (Nod.of_good o.good) hy]
        have := o.rea y hy
        simp only; omega
      · rw [atomOf_none (fun y hy e => hx ⟨y, hy, e⟩)]; decide
    constructor
    · intro h; omega
    · intro h; unfold maxI at h; omega

/-- the best literal not so: none may be so -/
theorem Best.all {T : Trail} (o : Ok T) {c d : List Int} (h : Best T c d) (h0 : d.length = 0 ∨ T.val (d.getD 0 0) < 0) : ∀ x ∈ d, -x ∈ T.lits := by
  intro x hx
  obtain ⟨i, hi, e⟩ := List.getElem_of_mem hx
  have e' : d.getD i 0 = x := by rw [← e]; simp [List.getD_eq_getElem?_getD, hi]
  have h1 := h.one i hi
  rw [e'] at h1
  refine o.neg_of ?_
  rcases h0 with h0 | h0
  · omega
  · have r0 := rank_hi o (d.getD 0 0)
    have r1 := rank_hi o x
    omega

theorem Best.rest {T : Trail} (o : Ok T) {c d : List Int} (h : Best T c d) (h0 : ¬ 1 < d.length ∨ T.val (d.getD 1 0) < 0) : ∀ x ∈ d, x ≠ d.getD 0 0 → -x ∈ T.lits := by
  intro x hx hne
  obtain ⟨i, hi, e⟩ := List.getElem_of_mem hx
  have e' : d.getD i 0 = x := by rw [← e]; simp [List.getD_eq_getElem?_getD, hi]
  have i1 : 1 ≤ i := by
    rcases Nat.eq_zero_or_pos i with h | h
    · subst h; exact absurd e'.symm hne
    · exact h
  have h1 := h.two i i1 hi
  rw [e'] at h1
  refine o.neg_of ?_
  rcases h0 with h0 | h0
  · omega
  · have r0 := rank_hi o (d.getD 1 0)
    have r1 := rank_hi o x
    omega

/-! what is watched anew -/

theorem delW_len (W : List (List Nat)) (k : Nat) : ∀ (ls : List Int), (delW W ls k).length = W.length := by
  intro ls
  unfold delW
  induction ls generalizing W with
  | nil => rfl
  | cons l r ih => rw [List.foldl_cons, ih]; simp
theorem addW_len (W : List (List Nat)) (k : Nat) : ∀ (ls : List Int), (addW W ls k).length = W.length := by
  intro ls
  unfold addW
  induction ls generalizing W with
  | nil => rfl
  | cons l r ih => rw [List.foldl_cons, ih]; simp

theorem delW_get (k : Nat) : ∀ (ls : List Int) (W : List (List Nat)), (∀ l ∈ ls, place l < W.length) → ∀ p, (delW W ls k).getD p [] = if ∃ l ∈ ls, place l = p then (W.getD p []).filter (· != k) else W.getD p []
  | [], W, _, p => by simp [delW]
  | l :: r, W, h, p => by
    have e : delW W (l :: r) k = delW (W.set (place l) ((W.getD (place l) []).filter (· != k))) r k := rfl
    rw [e, delW_get k r _ (fun m hm => by rw [List.length_set]; exact h m (List.mem_cons_of_mem _ hm))]
    have hl := h l List.mem_cons_self
    by_cases e1 : place l = p
    · subst e1
      rw [getD_set1 hl]
      rw [if_pos (⟨l, List.mem_cons_self, rfl⟩ : ∃ m ∈ l :: r, place m = place l)]
      split
      · rw [List.filter_filter]; simp
      · rfl
    · rw [getD_set2 e1]
      have : (∃ m ∈ l :: r, place m = p) ↔ ∃ m ∈ r, place m = p := by
        constructor
        · rintro ⟨m, hm, h2⟩
          rcases List.mem_cons.1 hm with e | e
          · subst e; exact absurd h2 e1
          · exact ⟨m, e, h2⟩
        · rintro ⟨m, hm, h2⟩; exact ⟨m, List.mem_cons_of_mem _ hm, h2⟩
      simp only [this]

theorem addW_get (k : Nat) : ∀ (ls : List Int) (W : List (List Nat)), (∀ l ∈ ls, place l < W.length) → (ls.map place).Nodup → ∀ p, (addW W ls k).getD p [] = if ∃ l ∈ ls, place l = p then W.getD p [] ++ [k] else W.getD p []
  | [], W, _, _, p => by simp [addW]
  | l :: r, W, h, hn, p => by
    have e : addW W (l :: r) k = addW (W.set (place l) (W.getD (place l) [] ++ [k])) r k := rfl
    rw [List.map_cons, List.nodup_cons] at hn
    rw [e, addW_get k r _ (fun m hm => by rw [List.length_set]; exact h m (List.mem_cons_of_mem _ hm)) hn.2]
    have hl := h l List.mem_cons_self
    by_cases e1 : place l = p
    · subst e1
      rw [getD_set1 hl]
      rw [if_pos (⟨l, List.mem_cons_self, rfl⟩ : ∃ m ∈ l :: r, place m = place l)]
      rw [if_neg]
      rintro ⟨m, hm, h2⟩
      exact hn.1 (List.mem_map.2 ⟨m, hm, h2⟩)
    · rw [getD_set2 e1]
      have : (∃ m ∈ l :: r, place m = p) ↔ ∃ m ∈ r, place m = p := by
        constructor
        · rintro ⟨m, hm, h2⟩
          rcases List.mem_cons.1 hm with e | e
          · subst e; exact absurd h2 e1
          · exact ⟨m, e, h2⟩
        · rintro ⟨m, hm, h2⟩; exact ⟨m, List.mem_cons_of_mem _ hm, h2⟩
      simp only [this]

theorem mem_take2 {c : List Int} {x : Int} : x ∈ c.take 2 ↔ ∃ i, i < 2 ∧ i < c.length ∧ c.getD i 0 = x := by
  constructor
  · intro h
    obtain ⟨i, hi, e⟩ := List.getElem_of_mem h
    have hi' := hi
    rw [List.length_take] at hi'
    refine ⟨i, by omega, by omega, ?_⟩
    rw [← e]; simp [List.getD_eq_getElem?_getD, show i < c.length by omega]
  · rintro ⟨i, h1, h2, rfl⟩
    have : (c.take 2)[i]? = some (c.getD i 0) := by
      rw [List.getElem?_take_of_lt h1]; simp [List.getD_eq_getElem?_getD, h2]
    exact List.mem_of_getElem? this

theorem places_nodup {n : Nat} {c : List Int} (h : Up.Good n c) : ((c.take 2).map place).Nodup := by
  have h1 : (c.map fun x => x.natAbs).Nodup := h.nod
  have h2 : ((c.take 2).map fun x => x.natAbs).Nodup := by rw [List.map_take]; exact (List.take_sublist _ _).nodup h1
  have h3 : ∀ x ∈ c.take 2, x ≠ 0 := fun x hx => (h.lit x (List.mem_of_mem_take hx)).1
  unfold List.Nodup at *
  rw [List.pairwise_map] at *
  refine h2.imp_of_mem ?_
  intro a b ha hb hne e
  exact hne (by rw [Rup.place_inj (h3 a ha) (h3 b hb) e])

/-- a clause that is watched by others of its literals -/
theorem Wat.anew {T : Trail} (o : Ok T) (h : Wat T) {k : Nat} (hk : k < T.cls.length) (hg : T.gone.getD k true = false) {d : List Int} (hp : d.Perm (T.cl k)) :
    Wat { T with cls := T.cls.set k d, watch := addW (delW T.watch ((T.cl k).take 2) k) (d.take 2) k } := by
  have hgc := o.cl hk
  have hgd := good_perm hgc hp
  have hb1 : ∀ l ∈ (T.cl k).take 2, place l < T.watch.length := fun l hl => by rw [o.wl]; exact Rup.place_lt (hgc.lit l (List.mem_of_mem_take hl))
  have hb2 : ∀ l ∈ d.take 2, place l < (delW T.watch ((T.cl k).take 2) k).length := fun l hl => by rw [delW_len, o.wl]; exact Rup.place_lt (hgd.lit l (List.mem_of_mem_take hl))
  have hdel : ∀ p, (delW T.watch ((T.cl k).take 2) k).getD p [] = (T.wt p).filter (· != k) := by
    intro p
    rw [delW_get k _ _ hb1]
    split
    · rfl
    · rename_i hn
      symm
      show (T.wt p).filter _ = T.wt p
      rw [List.filter_eq_self]
      intro m hm
      simp only [bne_iff_ne, ne_eq]
      intro e
      subst e
      obtain ⟨_, _, i, i1, i2, i3⟩ := h.snd p m hm
      exact hn ⟨_, mem_take2.2 ⟨i, i1, i2, rfl⟩, i3⟩
  have hwt : ∀ p, (addW (delW T.watch ((T.cl k).take 2) k) (d.take 2) k).getD p [] = if ∃ l ∈ d.take 2, place l = p then (T.wt p).filter (· != k) ++ [k] else (T.wt p).filter (· != k) := by
    intro p
    rw [addW_get k _ _ hb2 (places_nodup hgd), hdel]
  have hcl : ∀ m, (T.cls.set k d).getD m [] = if m = k then d else T.cl m := fun m => by
    have := setC_cl hk d m
    exact this
  have hmem : ∀ p m, m ∈ (addW (delW T.watch ((T.cl k).take 2) k) (d.take 2) k).getD p [] ↔ (m ≠ k ∧ m ∈ T.wt p) ∨ (m = k ∧ ∃ l ∈ d.take 2, place l = p) := by
    intro p m
    rw [hwt]
    split
    · rename_i h1
      rw [List.mem_append, List.mem_filter]
      simp only [bne_iff_ne, ne_eq, List.mem_singleton]
      constructor
      · rintro (⟨h2, h3⟩ | h2)
        · exact .inl ⟨h3, h2⟩
        · exact .inr ⟨h2, h1⟩
      · rintro (⟨h2, h3⟩ | ⟨h2, _⟩)
        · exact .inl ⟨h3, h2⟩
        · exact .inr h2
    · rename_i h1
      rw [List.mem_filter]
      simp only [bne_iff_ne, ne_eq]
      constructor
      · rintro ⟨h2, h3⟩; exact .inl ⟨h3, h2⟩
      · rintro (⟨h2, h3⟩ | ⟨_, h2⟩)
        · exact ⟨h3, h2⟩
        · exact absurd h2 h1
  refine ⟨fun p => ?_, fun p m hm => ?_, fun m hm hgm i i1 i2 => ?_⟩
  · show ((addW (delW T.watch ((T.cl k).take 2) k) (d.take 2) k).getD p []).Nodup
    rw [hwt]
    have hf : ((T.wt p).filter (· != k)).Nodup := (h.nd p).filter _
    split
    · rw [List.nodup_append]
      exact ⟨hf, by simp, fun a ha b hb e => by simp at hb; subst hb; subst e; simp at ha⟩
    · exact hf
  · have hm : m ∈ (addW (delW T.watch ((T.cl k).take 2) k) (d.take 2) k).getD p [] := hm
    rw [hmem] at hm
    show m < (T.cls.set k d).length ∧ _ ∧ ∃ i, i < 2 ∧ i < ((T.cls.set k d).getD m []).length ∧ place (((T.cls.set k d).getD m []).getD i 0) = p
    rw [List.length_set, hcl]
    rcases hm with ⟨h1, h2⟩ | ⟨h1, l, h2, h3⟩
    · rw [if_neg h1]; exact h.snd p m h2
    · rw [if_pos h1, h1]
      obtain ⟨i, i1, i2, i3⟩ := mem_take2.1 h2
      exact ⟨hk, hg, i, i1, i2, by rw [i3]; exact h3⟩
  · have hm : m < T.cls.length := by simpa using hm
    have i2 : i < ((T.cls.set k d).getD m []).length := i2
    show m ∈ (addW (delW T.watch ((T.cl k).take 2) k) (d.take 2) k).getD (place (((T.cls.set k d).getD m []).getD i 0)) []
    rw [hmem]
    rw [hcl] at i2 ⊢
    by_cases e : m = k
    · rw [if_pos e] at i2 ⊢
      exact .inr ⟨e, _, mem_take2.2 ⟨i, i1, i2, rfl⟩, rfl⟩
    · rw [if_neg e] at i2 ⊢
      exact .inl ⟨e, h.cpl m hm hgm i i1 i2⟩

end Tr
end Go.Proofs.Ytjbfgafkjejdjaa

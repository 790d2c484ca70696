/- The law of a trail, in plain Lean: what holds of it between calls; visiting a literal keeps it. -/
import Derived.Test.YtjbfgafkjejdjaaPropP1
namespace Go.Proofs.Ytjbfgafkjejdjaa
namespace Tr
open Cnf

def Trail.live (T : Trail) (k : Nat) : Prop := k < T.cls.length ∧ T.gone.getD k true = false

/-- a clause that is watched well: where one of the two is not so (among the first n), the other one is (among the first f) -/
structure Wk (S c : List Int) (n f : Nat) : Prop where
  two : 2 ≤ c.length
  a : -(c.getD 0 0) ∈ S.take n → c.getD 1 0 ∈ S.take f
  b : -(c.getD 1 0) ∈ S.take n → c.getD 0 0 ∈ S.take f

def Trail.ent (T : Trail) (i : Nat) : Int × Nat × Int := T.ents.getD i (0, 0, 0)

/-- a clause makes a literal so: the others are not, by what stands ahead of i -/
structure Cause (S c : List Int) (x : Int) (i : Nat) : Prop where
  mem : x ∈ c
  oth : ∀ y ∈ c, y ≠ x → -y ∈ S.take i

structure Inv (T : Trail) : Prop where
  ok : Ok T
  wat : Wat T
  top : ∀ k, T.live k → k ∉ T.short → Wk T.lits (T.cl k) T.next T.ents.length ∨ ((T.cl k).length = 1 ∧ (T.cl k).getD 0 0 ∈ T.lits)
  two : ∀ k, T.live k → k ∉ T.short → k ∉ T.weak → 2 ≤ (T.cl k).length
  lev : ∀ k, T.live k → k ∉ T.short → k ∉ T.weak → ∀ x ∈ T.levels, Wk T.lits (T.cl k) x.2 x.1
  nx : ∀ x ∈ T.levels, x.2 ≤ x.1 ∧ x.2 ≤ T.next
  nm : T.levels.Pairwise (fun x y => x.2 ≤ y.2)
  rea : ∀ i, i < T.ents.length → (T.ent i).2.2 = -1 ∨ (0 ≤ (T.ent i).2.2 ∧ (T.ent i).2.2.toNat < T.cls.length ∧ Cause T.lits (T.cl (T.ent i).2.2.toNat) (T.ent i).1 i)
  dec : ∀ i, i < T.ents.length → ((T.ent i).2.2 = -1 ↔ ∃ x ∈ T.levels, x.1 = i)
  lvl : ∀ i, i < T.ents.length → (T.ent i).2.1 = (T.levels.filter fun x => decide (x.1 ≤ i)).length
  sn : (T.short ++ T.weak).Nodup

theorem Cause.perm {S c d : List Int} {x : Int} {i : Nat} (h : Cause S c x i) (hp : d.Perm c) : Cause S d x i :=
  ⟨hp.mem_iff.2 h.mem, fun y hy => h.oth y (hp.mem_iff.1 hy)⟩

/-- clauses turned about, and watched anew -/
theorem Inv.repl {T U : Trail} (h : Inv T) (o : Ok U) (hw : Wat U) (hn : U.n = T.n) (hg : U.gone = T.gone) (he : U.ents = T.ents) (hl : U.levels = T.levels) (hx : U.next = T.next) (hs : U.short = T.short) (hk : U.weak = T.weak) (hc : U.cls.length = T.cls.length)
    (hp : ∀ m, (U.cl m).Perm (T.cl m)) (hwk : ∀ m, T.live m → m ∉ T.short → ∀ n f, Wk T.lits (T.cl m) n f → Wk T.lits (U.cl m) n f) : Inv U := by
  have hli : U.lits = T.lits := by unfold Trail.lits; rw [he]
  have hlive : ∀ k, U.live k ↔ T.live k := fun k => by unfold Trail.live; rw [hc, hg]
  have hent : ∀ i, U.ent i = T.ent i := fun i => by unfold Trail.ent; rw [he]
  refine ⟨o, hw, fun k hkl hks => ?_, fun k hkl hks hkw => ?_, fun k hkl hks hkw x hx' => ?_, ?_, ?_, fun i hi => ?_, fun i hi => ?_, fun i hi => ?_, by rw [hs, hk]; exact h.sn⟩
  · rw [hlive] at hkl
    rw [hs] at hks
    rw [hli, hx, he]
    rcases h.top k hkl hks with h1 | ⟨h1, h2⟩
    · exact .inl (hwk k hkl hks _ _ h1)
    · refine .inr ⟨by rw [(hp k).length_eq]; exact h1, ?_⟩
      obtain ⟨x, hx1⟩ := List.length_eq_one_iff.1 h1
      have := hp k
      rw [hx1] at this
      rw [List.perm_singleton.1 this, ← hx1]; exact h2
  · rw [hlive] at hkl
    rw [hs] at hks
    rw [hk] at hkw
    rw [(hp k).length_eq]; exact h.two k hkl hks hkw
  · rw [hlive] at hkl
    rw [hs] at hks
    rw [hk] at hkw
    rw [hl] at hx'
    rw [hli]
    exact hwk k hkl hks _ _ (h.lev k hkl hks hkw x hx')
  · rw [hl, hx]; exact h.nx
  · rw [hl]; exact h.nm
  · rw [he] at hi
    rw [hent, hc, hli]
    rcases h.rea i hi with h1 | ⟨h1, h2, h3⟩
    · exact .inl h1
    · exact .inr ⟨h1, h2, h3.perm (hp _)⟩
  · rw [he] at hi
    rw [hent, hl]; exact h.dec i hi
  · rw [he] at hi
    rw [hent, hl]; exact h.lvl i hi

theorem Wk.more {S c : List Int} {n f f' : Nat} {r : List Int} (h : Wk S c n f) (hn : n ≤ S.length) (hf : f ≤ S.length) (hf' : f ≤ f') : Wk (S ++ r) c n f' := by
  refine ⟨h.two, fun h1 => ?_, fun h1 => ?_⟩
  · rw [List.take_append_of_le_length hn] at h1
    have := h.a h1
    exact (List.take_subset_take_left (S ++ r) hf') (by rw [List.take_append_of_le_length hf]; exact this)
  · rw [List.take_append_of_le_length hn] at h1
    have := h.b h1
    exact (List.take_subset_take_left (S ++ r) hf') (by rw [List.take_append_of_le_length hf]; exact this)

theorem ent_put {T : Trail} {l r : Int} {i : Nat} (hi : i < T.ents.length) : (T.put l r).ent i = T.ent i := by
  unfold Trail.put Trail.ent
  exact getD_app_l _ _ _ hi
theorem ent_new (T : Trail) (l r : Int) : (T.put l r).ent T.ents.length = (l, T.levels.length, r) := by
  unfold Trail.put Trail.ent
  rw [getD_app_r _ _ _ (Nat.le_refl _)]; simp
theorem lits_put (T : Trail) (l r : Int) : (T.put l r).lits = T.lits ++ [l] := by simp [Trail.put, Trail.lits]

theorem Ok.levb {T : Trail} (o : Ok T) {x : Nat × Nat} (hx : x ∈ T.levels) : x.1 < T.ents.length := o.lin x hx

theorem filter_all {T : Trail} (o : Ok T) {m : Nat} (hm : T.ents.length ≤ m) : (T.levels.filter fun x => decide (x.1 ≤ m)).length = T.levels.length := by
  rw [List.filter_eq_self.2]
  intro x hx
  have := o.lin x hx
  simp; omega

/-- a literal that follows put on the trail -/
theorem Inv.put {T : Trail} (h : Inv T) {l : Int} (hl : l ≠ 0 ∧ l.natAbs ≤ T.n) (hv : T.val l = 0) {k : Nat} (hk : k < T.cls.length) (hc : Cause T.lits (T.cl k) l T.ents.length) : Inv (T.put l k) := by
  have hcb := h.ok.cb
  have hll := lits_len T
  have hlp := lits_put T l k
  have hel : (T.put l k).ents.length = T.ents.length + 1 := by simp [Trail.put]
  refine ⟨h.ok.put hl hv (by omega), ⟨h.wat.nd, h.wat.snd, h.wat.cpl⟩, fun m hm hs => ?_, h.two, fun m hm hs hw x hx => ?_, h.nx, h.nm, fun i hi => ?_, fun i hi => ?_, fun i hi => ?_, h.sn⟩
  · rw [hlp, hel]
    rcases h.top m hm hs with h1 | ⟨h1, h2⟩
    · exact .inl (h1.more (by rw [hll]; exact h.ok.next) (by omega) (by omega))
    · exact .inr ⟨h1, List.mem_append_left _ h2⟩
  · rw [hlp]
    have := h.ok.lin x hx
    have := (h.nx x hx).1
    exact (h.lev m hm hs hw x hx).more (by omega) (by omega) (Nat.le_refl _)
  · rw [hel] at hi
    rw [hlp]
    rcases Nat.lt_or_ge i T.ents.length with h1 | h1
    · rw [ent_put h1]
      rcases h.rea i h1 with h2 | ⟨h2, h3, h4⟩
      · exact .inl h2
      · refine .inr ⟨h2, h3, h4.mem, fun y hy hne => ?_⟩
        rw [List.take_append_of_le_length (by omega)]
        exact h4.oth y hy hne
    · have e : i = T.ents.length := by omega
      subst e
      rw [ent_new]
      have e2 : ((k : Int)).toNat = k := by omega
      simp only [e2]
      refine .inr ⟨by omega, hk, hc.mem, fun y hy hne => ?_⟩
      rw [List.take_append_of_le_length (by omega)]
      exact hc.oth y hy hne
  · rw [hel] at hi
    rcases Nat.lt_or_ge i T.ents.length with h1 | h1
    · rw [ent_put h1]; exact h.dec i h1
    · have e : i = T.ents.length := by omega
      subst e
      rw [ent_new]
      constructor
      · intro h2; simp only at h2; omega
      · rintro ⟨x, hx, h2⟩
        have := h.ok.lin x hx; omega
  · rw [hel] at hi
    rcases Nat.lt_or_ge i T.ents.length with h1 | h1
    · rw [ent_put h1]; exact h.lvl i h1
    · have e : i = T.ents.length := by omega
      subst e
      rw [ent_new]
      show T.levels.length = _
      exact (filter_all h.ok (Nat.le_refl _)).symm

theorem Wk.swap {S c : List Int} {n f : Nat} (h : Wk S c n f) : Wk S (swapL c 0 1) n f := by
  have h2 := h.two
  have hg := swapL_get c (i := 0) (j := 1) (by omega) (by omega)
  have e0 : (swapL c 0 1).getD 0 0 = c.getD 1 0 := by rw [hg]; simp
  have e1 : (swapL c 0 1).getD 1 0 = c.getD 0 0 := by rw [hg]; simp
  refine ⟨by rw [swapL_len]; exact h2, ?_, ?_⟩
  · rw [e0, e1]; exact h.b
  · rw [e0, e1]; exact h.a

theorem Wk.turn {S c : List Int} {n f : Nat} (h : Wk S c n f) (l : Int) : Wk S (turn l c) n f := by
  unfold Tr.turn
  split
  · exact h.swap
  · exact h

end Tr
end Go.Proofs.Ytjbfgafkjejdjaa

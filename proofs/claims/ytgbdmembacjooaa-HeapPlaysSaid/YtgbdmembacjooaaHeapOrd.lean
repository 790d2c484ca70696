/- The order of the heap, in plain Lean: what up, down and their callers keep, and that the first one is ahead of all others. -/
import Derived.Test.YtgbdmembacjooaaHeapFn
namespace Go.Proofs.Ytgbdmembacjooaa
namespace Hp

theorem ahead_iff (S : List Nat) (a b : Nat) : ahead S a b = true ↔ S.getD b 0 < S.getD a 0 ∨ (S.getD a 0 = S.getD b 0 ∧ a < b) := by simp [ahead]
theorem ahead_not (S : List Nat) (a b : Nat) : ahead S a b = false ↔ S.getD a 0 ≤ S.getD b 0 ∧ (S.getD a 0 = S.getD b 0 → b ≤ a) := by
  rw [← Bool.not_eq_true, ahead_iff]; omega

def OrdAt (h : Hp) (j : Nat) : Prop := ahead h.S (h.at1 j) (h.at1 ((j - 1) / 2)) = false
def HFrom (n : Nat) (h : Hp) : Prop := ∀ j, 0 < j → j < h.L.length → n ≤ (j - 1) / 2 → OrdAt h j
def HOrd (h : Hp) : Prop := ∀ j, 0 < j → j < h.L.length → OrdAt h j
def has (h : Hp) (a : Nat) : Prop := ∃ j, j < h.L.length ∧ h.at1 j = a

theorem has_swp (h : Hp) {i k : Nat} (hi : i < h.L.length) (hk : k < h.L.length) (a : Nat) : (h.swp i k).has a ↔ h.has a := by
  constructor
  · rintro ⟨j, hj, rfl⟩
    rw [swp_len] at hj
    rw [at1_swp h hi hk]
    split
    · exact ⟨i, hi, rfl⟩
    · split
      · exact ⟨k, hk, rfl⟩
      · exact ⟨j, hj, rfl⟩
  · rintro ⟨j, hj, rfl⟩
    by_cases e1 : j = i
    · subst e1; exact ⟨k, by simpa using hk, by rw [at1_swp h hi hk]; simp⟩
    · by_cases e2 : j = k
      · subst e2
        refine ⟨i, by simpa using hi, ?_⟩
        rw [at1_swp h hi hk]
        split
        · rename_i e; subst e; rfl
        · simp
      · exact ⟨j, by simpa using hj, by rw [at1_swp h hi hk, if_neg (Ne.symm e2), if_neg (Ne.symm e1)]⟩

theorem up_all (h : Hp) (o : h.Ok) (i : Nat) (hi : i < h.L.length) : (h.upI i).Ok ∧ (h.upI i).S = h.S ∧ (h.upI i).L.length = h.L.length ∧ ∀ a, (h.upI i).has a ↔ h.has a := by
  induction i using Nat.strongRecOn generalizing h with
  | _ i ih =>
    rw [upI_eq]
    split
    · rename_i hc
      simp only [Bool.and_eq_true, decide_eq_true_eq] at hc
      have h2 : (i - 1) / 2 < h.L.length := by omega
      obtain ⟨q1, q2, q3, q4⟩ := ih ((i - 1) / 2) (by omega) (h.swp i ((i - 1) / 2)) (o.swp hi h2) (by simpa using h2)
      exact ⟨q1, q2, by rw [q3]; simp, fun a => (q4 a).trans (has_swp h hi h2 a)⟩
    · exact ⟨o, rfl, rfl, fun _ => Iff.rfl⟩

theorem up_ord (h : Hp) (o : h.Ok) (i : Nat) (hi : i < h.L.length) (h1 : ∀ j, 0 < j → j < h.L.length → j ≠ i → OrdAt h j)
    (h2 : ∀ j, 0 < j → j < h.L.length → (j - 1) / 2 = i → 0 < i → ahead h.S (h.at1 j) (h.at1 ((i - 1) / 2)) = false) : HOrd (h.upI i) := by
  induction i using Nat.strongRecOn generalizing h with
  | _ i ih =>
    rw [upI_eq]
    split
    · rename_i hc
      simp only [Bool.and_eq_true, decide_eq_true_eq] at hc
      obtain ⟨hi0, hb⟩ := hc
      have hp : (i - 1) / 2 < h.L.length := by omega
      have hat := at1_swp h hi hp
      unfold bef at hb
      rw [ahead_iff] at hb
      refine ih ((i - 1) / 2) (by omega) _ (o.swp hi hp) (by simpa using hp) ?_ ?_
      · intro j hj0 hj hjp
        rw [swp_len] at hj
        unfold OrdAt
        rw [hat, hat, swp_S, if_neg (Ne.symm hjp)]
        by_cases e1 : i = j
        · subst e1
          simp only [if_true]
          rw [ahead_not]; omega
        · rw [if_neg e1]
          by_cases e2 : (i - 1) / 2 = (j - 1) / 2
          · rw [if_pos e2]
            have := h1 j hj0 hj (Ne.symm e1)
            unfold OrdAt at this
            rw [← e2, ahead_not] at this
            rw [ahead_not]; omega
          · rw [if_neg e2]
            by_cases e3 : i = (j - 1) / 2
            · rw [if_pos e3]
              exact h2 j hj0 hj e3.symm hi0
            · rw [if_neg e3]
              exact h1 j hj0 hj (Ne.symm e1)
      · intro j hj0 hj hjp hp0
        rw [swp_len] at hj
        rw [hat, hat, swp_S, if_neg (by omega : ¬ (i - 1) / 2 = j), if_neg (by omega : ¬ (i - 1) / 2 = ((i - 1) / 2 - 1) / 2), if_neg (by omega : ¬ i = ((i - 1) / 2 - 1) / 2)]
        have hpp := h1 ((i - 1) / 2) hp0 hp (by omega)
        unfold OrdAt at hpp
        by_cases e1 : i = j
        · subst e1
          simp only [if_true]
          exact hpp
        · rw [if_neg e1]
          have := h1 j hj0 hj (Ne.symm e1)
          unfold OrdAt at this
          rw [hjp, ahead_not] at this
          rw [ahead_not] at hpp
          rw [ahead_not]; omega
    · rename_i hc
      intro j hj0 hj
      by_cases e : j = i
      · subst e
        simp only [Bool.and_eq_true, decide_eq_true_eq, not_and] at hc
        have := hc hj0
        unfold bef at this
        unfold OrdAt
        simpa using this
      · exact h1 j hj0 hj e

theorem kid_best {h : Hp} {i : Nat} (hi : ¬ h.L.length ≤ 2 * i + 1) : (h.kid i - 1) / 2 = i ∧ 0 < h.kid i ∧ ∀ j, 0 < j → j < h.L.length → (j - 1) / 2 = i → ahead h.S (h.at1 j) (h.at1 (h.kid i)) = false := by
  unfold kid
  by_cases hc : (decide (2 * i + 1 + 1 < h.L.length) && h.bef (2 * i + 1 + 1) (2 * i + 1)) = true
  · rw [if_pos hc]
    simp only [Bool.and_eq_true, decide_eq_true_eq] at hc
    obtain ⟨hc1, hc2⟩ := hc
    unfold bef at hc2
    rw [ahead_iff] at hc2
    refine ⟨by omega, by omega, ?_⟩
    intro j hj0 hj hp
    have : j = 2 * i + 1 ∨ j = 2 * i + 1 + 1 := by omega
    rcases this with rfl | rfl
    · rw [ahead_not]; omega
    · rw [ahead_not]; omega
  · rw [if_neg hc]
    simp only [Bool.and_eq_true, decide_eq_true_eq, not_and] at hc
    refine ⟨by omega, by omega, ?_⟩
    intro j hj0 hj hp
    have : j = 2 * i + 1 ∨ j = 2 * i + 1 + 1 := by omega
    rcases this with rfl | rfl
    · rw [ahead_not]; omega
    · have := hc hj
      unfold bef at this
      simpa using this

theorem dn_all (h : Hp) (o : h.Ok) (i : Nat) : (h.dn i).Ok ∧ ∀ a, (h.dn i).has a ↔ h.has a := by
  generalize hm : h.L.length - i = m
  induction m using Nat.strongRecOn generalizing h i with
  | _ m ih =>
    rw [dn_eq]
    split
    · exact ⟨o, fun _ => Iff.rfl⟩
    · rename_i hc
      obtain ⟨k1, k2⟩ := kid_lt hc
      split
      · obtain ⟨q1, q2⟩ := ih (h.L.length - h.kid i) (by omega) (h.swp i (h.kid i)) (o.swp (by omega) k1) (h.kid i) (by simp)
        exact ⟨q1, fun a => (q2 a).trans (has_swp h (by omega) k1 a)⟩
      · exact ⟨o, fun _ => Iff.rfl⟩

theorem dn_ord (m : Nat) (h : Hp) (o : h.Ok) (i : Nat) (hm : m ≤ i) (h1 : ∀ j, 0 < j → j < h.L.length → m ≤ (j - 1) / 2 → (j - 1) / 2 ≠ i → OrdAt h j)
    (h2 : ∀ j, 0 < j → j < h.L.length → (j - 1) / 2 = i → 0 < i → m ≤ (i - 1) / 2 → ahead h.S (h.at1 j) (h.at1 ((i - 1) / 2)) = false) : HFrom m (h.dn i) := by
  generalize hd : h.L.length - i = d
  induction d using Nat.strongRecOn generalizing h i with
  | _ d ih =>
    rw [dn_eq]
    by_cases hc : h.L.length ≤ 2 * i + 1
    · rw [if_pos hc]
      intro j hj0 hj hjm
      exact h1 j hj0 hj hjm (by omega)
    · rw [if_neg hc]
      obtain ⟨k1, k2⟩ := kid_lt hc
      obtain ⟨k3, k4, k5⟩ := kid_best hc
      generalize h.kid i = k at *
      have hi : i < h.L.length := by omega
      have hat := at1_swp h hi k1
      by_cases hb : h.bef k i = true
      · rw [if_pos hb]
        unfold bef at hb
        rw [ahead_iff] at hb
        refine ih (h.L.length - k) (by omega) (h.swp i k) (o.swp hi k1) k (by omega) ?_ ?_ (by simp)
        · intro j hj0 hj hjm hjk
          rw [swp_len] at hj
          unfold OrdAt
          rw [hat, hat, swp_S]
          by_cases e1 : k = j
          · subst e1
            rw [if_pos rfl, k3, if_neg (by omega : ¬ k = i), if_pos rfl, ahead_not]
            omega
          · rw [if_neg e1]
            by_cases e2 : i = j
            · subst e2
              rw [if_pos rfl, if_neg (by omega : ¬ k = (i - 1) / 2), if_neg (by omega : ¬ i = (i - 1) / 2)]
              exact h2 k k4 k1 k3 hj0 hjm
            · rw [if_neg e2, if_neg (Ne.symm hjk)]
              by_cases e3 : i = (j - 1) / 2
              · rw [if_pos e3]
                exact k5 j hj0 hj e3.symm
              · rw [if_neg e3]
                exact h1 j hj0 hj hjm (Ne.symm e3)
        · intro j hj0 hj hjk hk0 hmk
          rw [swp_len] at hj
          rw [hat, hat, swp_S, if_neg (by omega : ¬ k = j), if_neg (by omega : ¬ i = j), k3, if_neg (by omega : ¬ k = i), if_pos rfl]
          have := h1 j hj0 hj (by omega) (by omega)
          unfold OrdAt at this
          rw [hjk] at this
          exact this
      · rw [if_neg hb]
        have hb' : ahead h.S (h.at1 k) (h.at1 i) = false := by simpa [bef] using hb
        rw [ahead_not] at hb'
        intro j hj0 hj hjm
        by_cases e : (j - 1) / 2 = i
        · have := k5 j hj0 hj e
          unfold OrdAt
          rw [e]
          rw [ahead_not] at this
          rw [ahead_not]; omega
        · exact h1 j hj0 hj hjm e

theorem ordersTo_all : ∀ (n : Nat) (h : Hp), h.Ok → HFrom n h → (ordersTo n h).Ok ∧ HOrd (ordersTo n h) ∧ ∀ a, (ordersTo n h).has a ↔ h.has a
  | 0, h, o, hf => ⟨o, fun j h0 hj => hf j h0 hj (Nat.zero_le _), fun _ => Iff.rfl⟩
  | n + 1, h, o, hf => by
    obtain ⟨q1, q2⟩ := dn_all h o n
    have q3 : HFrom n (h.dn n) := dn_ord n h o n (Nat.le_refl _) (fun j h0 hj hm hne => hf j h0 hj (by omega)) (fun j _ _ _ _ _ => by omega)
    obtain ⟨r1, r2, r3⟩ := ordersTo_all n _ q1 q3
    exact ⟨r1, r2, fun a => (r3 a).trans (q2 a)⟩

theorem orders_all (h : Hp) (o : h.Ok) : h.orders.Ok ∧ HOrd h.orders ∧ ∀ a, h.orders.has a ↔ h.has a :=
  ordersTo_all _ h o (fun j _ _ _ => by omega)

theorem halve_all (h : Hp) (o : h.Ok) : h.halve.Ok ∧ HOrd h.halve ∧ (∀ a, h.halve.has a ↔ h.has a) := orders_all _ o.half

/-- The first one is ahead of all others. -/
theorem first_ahead (h : Hp) (o : h.Ok) (ho : HOrd h) (j : Nat) (hj : j < h.L.length) (h0 : 0 < j) : ahead h.S (h.at1 0) (h.at1 j) = true := by
  have key : ∀ j, j < h.L.length → ahead h.S (h.at1 j) (h.at1 0) = false := by
    intro j
    induction j using Nat.strongRecOn with
    | _ j ih =>
      intro hj
      rcases Nat.eq_zero_or_pos j with rfl | h0
      · rw [ahead_not]; omega
      · have h1 := ih ((j - 1) / 2) (by omega) (by omega)
        have h2 := ho j h0 hj
        unfold OrdAt at h2
        rw [ahead_not] at h1 h2
        rw [ahead_not]; omega
  have h1 := key j hj
  have h2 : h.at1 j ≠ h.at1 0 := fun e => by have := o.inj hj (by omega) e; omega
  rw [ahead_not] at h1
  rw [ahead_iff]; omega

/-- What a pop leaves. -/
theorem pop_all (h : Hp) (o : h.Ok) (ho : HOrd h) (hL : 0 < h.L.length) :
    h.pop.Ok ∧ HOrd h.pop ∧ h.pop.S = h.S ∧ h.pop.L.length = h.L.length - 1 ∧ (∀ a, h.pop.has a ↔ h.has a ∧ a ≠ h.at1 0) ∧ (∀ a, h.pop.has a → ahead h.S (h.at1 0) a = true) ∧ h.has (h.at1 0) ∧ h.at1 0 < h.S.length := by
  have o1 := o.swp hL (k := h.L.length - 1) (by omega)
  have oless := o1.less (by simpa using hL)
  have hat0 := at1_swp h hL (show h.L.length - 1 < h.L.length by omega)
  have hlast : (h.swp 0 (h.L.length - 1)).at1 (h.L.length - 1) = h.at1 0 := by rw [hat0]; simp
  simp only [Hp.swp_len, hlast] at oless
  have hpop : h.pop = Hp.dn { h.swp 0 (h.L.length - 1) with L := (h.swp 0 (h.L.length - 1)).L.take (h.L.length - 1), A := (h.swp 0 (h.L.length - 1)).A.set (h.at1 0) (-1) } 0 := rfl
  obtain ⟨g, hg⟩ : ∃ g : Hp, g = { h.swp 0 (h.L.length - 1) with L := (h.swp 0 (h.L.length - 1)).L.take (h.L.length - 1), A := (h.swp 0 (h.L.length - 1)).A.set (h.at1 0) (-1) } := ⟨_, rfl⟩
  rw [← hg] at hpop oless
  have gS : g.S = h.S := by rw [hg]; rfl
  have gL : g.L.length = h.L.length - 1 := by rw [hg]; simp
  have gat : ∀ j, j < h.L.length - 1 → g.at1 j = if j = 0 then h.at1 (h.L.length - 1) else h.at1 j := by
    intro j hj
    have h1 : g.at1 j = (h.swp 0 (h.L.length - 1)).at1 j := by
      rw [hg]
      unfold at1
      simp only [List.getD_eq_getElem?_getD, List.getElem?_take, hj, if_true]
    rw [h1, hat0, if_neg (by omega)]
    by_cases e : j = 0
    · subst e; simp
    · rw [if_neg (Ne.symm e), if_neg e]
  have ghas : ∀ a, g.has a ↔ h.has a ∧ a ≠ h.at1 0 := by
    intro a
    constructor
    · rintro ⟨j, hj, rfl⟩
      rw [gL] at hj
      rw [gat j hj]
      by_cases e : j = 0
      · rw [if_pos e]
        exact ⟨⟨_, by omega, rfl⟩, fun e' => by have := o.inj (by omega) hL e'; omega⟩
      · rw [if_neg e]
        exact ⟨⟨j, by omega, rfl⟩, fun e' => by have := o.inj (by omega) hL e'; omega⟩
    · rintro ⟨⟨j, hj, rfl⟩, hne⟩
      have hj0 : j ≠ 0 := fun e => hne (by rw [e])
      by_cases e : j = h.L.length - 1
      · exact ⟨0, by omega, by rw [gat 0 (by omega), if_pos rfl, e]⟩
      · exact ⟨j, by omega, by rw [gat j (by omega), if_neg hj0]⟩
  clear hg
  obtain ⟨q1, q2⟩ := dn_all g oless 0
  have q3 : HFrom 0 (g.dn 0) := by
    refine dn_ord 0 g oless 0 (Nat.le_refl _) ?_ (fun j _ _ _ h0 => by omega)
    intro j hj0 hj _ hne
    rw [gL] at hj
    unfold OrdAt
    rw [gat j hj, gat _ (by omega), if_neg (by omega : ¬ j = 0), if_neg hne, gS]
    exact ho j hj0 (by omega)
  rw [hpop]
  refine ⟨q1, fun j h0 hj => q3 j h0 hj (Nat.zero_le _), by rw [dn_S, gS], by rw [dn_L, gL], fun a => (q2 a).trans (ghas a), ?_, ⟨0, hL, rfl⟩, o.lt hL⟩
  intro a ha
  obtain ⟨⟨j, hj, rfl⟩, hne⟩ := (ghas a).1 ((q2 a).1 ha)
  refine first_ahead h o ho j hj ?_
  rcases Nat.eq_zero_or_pos j with rfl | h0
  · exact (hne rfl).elim
  · exact h0

theorem push_all (h : Hp) (o : h.Ok) (ho : HOrd h) {x : Nat} (hx : x < h.S.length) (hz : h.A.getD x 0 < 0) :
    (h.push x).Ok ∧ HOrd (h.push x) ∧ (h.push x).S = h.S ∧ (h.push x).L.length = h.L.length + 1 ∧ ∀ a, (h.push x).has a ↔ h.has a ∨ a = x := by
  have om := o.more hx hz
  unfold push
  obtain ⟨g, hg⟩ : ∃ g : Hp, g = { h with A := h.A.set x (h.L.length : Int), L := h.L ++ [x] } := ⟨_, rfl⟩
  rw [← hg] at om ⊢
  have gS : g.S = h.S := by rw [hg]
  have gL : g.L.length = h.L.length + 1 := by rw [hg]; simp
  have gat : ∀ j, j < h.L.length → g.at1 j = h.at1 j := by
    intro j hj
    rw [hg]; unfold at1
    simp [List.getD_eq_getElem?_getD, List.getElem?_append, hj]
  have gatl : g.at1 h.L.length = x := by
    rw [hg]; unfold at1
    simp [List.getD_eq_getElem?_getD]
  clear hg
  have hlt : h.L.length < g.L.length := by omega
  obtain ⟨q1, q2, q3, q4⟩ := up_all g om h.L.length hlt
  refine ⟨q1, ?_, q2.trans gS, q3.trans gL, fun a => (q4 a).trans ?_⟩
  · refine up_ord g om h.L.length hlt ?_ (fun j _ hj hp _ => by omega)
    intro j hj0 hj hne
    unfold OrdAt
    rw [gat j (by omega), gat _ (by omega), gS]
    exact ho j hj0 (by omega)
  · constructor
    · rintro ⟨j, hj, rfl⟩
      by_cases c : j < h.L.length
      · exact .inl ⟨j, c, (gat j c).symm⟩
      · have : j = h.L.length := by omega
        subst this
        exact .inr gatl
    · rintro (⟨j, hj, rfl⟩ | rfl)
      · exact ⟨j, by omega, gat j hj⟩
      · exact ⟨_, hlt, gatl⟩

theorem A_neg {h : Hp} (o : h.Ok) {a : Nat} (ha : a < h.S.length) : h.A.getD a 0 < 0 ↔ ¬ h.has a := by
  constructor
  · rintro hz ⟨j, hj, rfl⟩
    have := o.pos1 j hj; omega
  · intro hn
    have := o.pos2 a ha (fun j hj e => hn ⟨j, hj, e⟩); omega

/-- the loop ahead of a bump keeps all -/
theorem room_all : ∀ (f : Nat) (h : Hp), h.Ok → HOrd h → ∀ (a y : Nat), (room f h a y).1.Ok ∧ HOrd (room f h a y).1 ∧ (room f h a y).1.S.length = h.S.length ∧ (∀ b, (room f h a y).1.has b ↔ h.has b)
  | 0, h, o, ho, _, _ => ⟨o, ho, rfl, fun _ => Iff.rfl⟩
  | f + 1, h, o, ho, a, y => by
    rw [room]
    split
    · obtain ⟨q1, q2, q3⟩ := halve_all h o
      obtain ⟨r1, r2, r3, r4⟩ := room_all f h.halve q1 q2 a (y / 2)
      exact ⟨r1, r2, by rw [r3, halve_S]; simp, fun b => (r4 b).trans (q3 b)⟩
    · exact ⟨o, ho, rfl, fun _ => Iff.rfl⟩

theorem bump_all (h : Hp) (o : h.Ok) (ho : HOrd h) {a : Nat} (ha : a < h.S.length) (y : Nat) (hsum : (room y h a y).1.sc a + (room y h a y).2 ≤ Hp.most) :
    (h.bump a y).Ok ∧ HOrd (h.bump a y) ∧ (h.bump a y).S = (room y h a y).1.S.set a ((room y h a y).1.sc a + (room y h a y).2) ∧ ∀ b, (h.bump a y).has b ↔ h.has b := by
  obtain ⟨r1, r2, r3, r4⟩ := room_all y h o ho a y
  unfold bump
  generalize room y h a y = r at *
  obtain ⟨g, y'⟩ := r
  simp only at *
  have og := r1.setS a (g.sc a + y') hsum
  obtain ⟨g', hg'⟩ : ∃ g' : Hp, g' = { g with S := g.S.set a (g.sc a + y') } := ⟨_, rfl⟩
  rw [← hg'] at og
  have gS : g'.S = g.S.set a (g.sc a + y') := by rw [hg']
  have gL : g'.L = g.L := by rw [hg']
  have gA : g'.A = g.A := by rw [hg']
  have gat : ∀ j, g'.at1 j = g.at1 j := fun j => by unfold at1; rw [gL]
  have ghas : ∀ b, g'.has b ↔ g.has b := fun b => by unfold has; simp only [gL, gat]
  have hget : ∀ b, g'.S.getD b 0 = if a = b then g.S.getD a 0 + y' else g.S.getD b 0 := fun b => by rw [gS, getD_set _ _ _ _ _ (by omega)]; rfl
  -- the order may fail at the place of a alone
  have hord : ∀ j, 0 < j → j < g'.L.length → g'.at1 j ≠ a → OrdAt g' j := by
    intro j hj0 hj hne
    have := r2 j hj0 (by rwa [← gL])
    unfold OrdAt at this ⊢
    rw [gat, gat]
    rw [gat] at hne
    rw [ahead_not] at this
    rw [ahead_not, hget, hget, if_neg (Ne.symm hne)]
    split
    · rename_i e; rw [← e] at this ⊢; omega
    · exact this
  have hSlen : a < g'.S.length := by rw [gS]; simp; omega
  rw [← hg'] 
  by_cases c : g.A.getD a 0 < 0
  · rw [if_pos c]
    refine ⟨og, ?_, gS, fun b => (ghas b).trans (r4 b)⟩
    intro j hj0 hj
    refine hord j hj0 hj fun e => ?_
    exact (A_neg r1 (by omega)).1 c ⟨j, by rwa [← gL], by rw [← gat]; exact e⟩
  · rw [if_neg c]
    have hpl := og.place hSlen (by rw [gA]; omega)
    rw [gA] at hpl
    obtain ⟨p1, p2⟩ := hpl
    generalize (g.A.getD a 0).toNat = i at *
    obtain ⟨q1, q2, q3, q4⟩ := up_all g' og i p1
    refine ⟨q1, ?_, q2.trans gS, fun b => (q4 b).trans ((ghas b).trans (r4 b))⟩
    refine up_ord g' og i p1 ?_ ?_
    · intro j hj0 hj hne
      refine hord j hj0 hj fun e => hne ?_
      exact og.inj hj p1 (e.trans p2.symm)
    · intro j hj0 hj hp hi0
      have e1 := hord j hj0 hj (fun e => by have := og.inj hj p1 (e.trans p2.symm); omega)
      have e2 := r2 i hi0 (by rwa [← gL])
      have e3 := r2 j hj0 (by rwa [← gL])
      have hne : g'.at1 j ≠ a := fun e => by have := og.inj hj p1 (e.trans p2.symm); omega
      have hne2 : g'.at1 ((i - 1) / 2) ≠ a := fun e => by have := og.inj (by omega) p1 (e.trans p2.symm); omega
      unfold OrdAt at e2 e3
      rw [hp] at e3
      rw [ahead_not] at e2 e3
      rw [ahead_not, hget, hget, if_neg (Ne.symm hne), if_neg (Ne.symm hne2), gat, gat]
      omega

end Hp
end Go.Proofs.Ytgbdmembacjooaa

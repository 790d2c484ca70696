/- What a conflict teaches: its laws. Plain Lean. -/
import Derived.Test.YtjedgdamommgeaaLrnP1
set_option linter.unusedVariables false
namespace Go.Proofs.Ytjedgdamommgeaa
open Go.RowKit
open Tr

namespace Tr
open Cnf Up

theorem absW_idem {T : Trail} (h : Inv T) {x : Int} (hx : x ∈ T.lits) : absW x = (x.natAbs : Int) ∧ absW (absW x) = absW x := by
  have := h.ok.good.lit _ hx
  have e := absW_lit (n := T.n) this h.ok.n
  refine ⟨e, ?_⟩
  rw [e, absW_lit (n := T.n) (by omega) h.ok.n]
  omega

theorem StuAt.some_top {T : Trail} {top : Int} {s : Stu} {i : Nat} (S : StuAt T top s i) (hm : 1 ≤ s.many) : ∃ a ∈ s.ks, T.lvl (s.f a) = top := by
  have h1 := S.many
  have h2 : 0 < (s.ks.filter fun a => T.lvl (s.f a) == top).length := by omega
  obtain ⟨a, ha⟩ := List.exists_mem_of_length_pos h2
  obtain ⟨h3, h4⟩ := List.mem_filter.1 ha
  exact ⟨a, h3, by simpa using h4⟩
theorem StuAt.two_top {T : Trail} {top : Int} {s : Stu} {i : Nat} (S : StuAt T top s i) (hm : 2 ≤ s.many) (b : Int) : ∃ a ∈ s.ks, a ≠ b ∧ T.lvl (s.f a) = top := by
  have h1 := S.many
  have h2 : 1 < (s.ks.filter fun a => T.lvl (s.f a) == top).length := by omega
  have hnd : (s.ks.filter fun a => T.lvl (s.f a) == top).Nodup := S.nd.filter _
  match hq : s.ks.filter (fun a => T.lvl (s.f a) == top), h2, hnd with
  | x :: y :: r, _, hnd =>
    have hx : x ∈ s.ks.filter (fun a => T.lvl (s.f a) == top) := by rw [hq]; simp
    have hy : y ∈ s.ks.filter (fun a => T.lvl (s.f a) == top) := by rw [hq]; simp
    obtain ⟨x1, x2⟩ := List.mem_filter.1 hx
    obtain ⟨y1, y2⟩ := List.mem_filter.1 hy
    by_cases e : x = b
    · refine ⟨y, y1, fun e2 => ?_, by simpa using y2⟩
      rw [List.nodup_cons] at hnd
      exact hnd.1 (by rw [e, ← e2]; simp)
    · exact ⟨x, x1, e, by simpa using x2⟩

theorem StuAt.back {T : Trail} (h : Inv T) {top : Int} {s : Stu} {i : Nat} (S : StuAt T top s (i + 1)) (hi : i < T.ents.length) (hc : s.f (absW (T.lits.getD i 0)) = 0 ∨ T.lvl (absW (T.lits.getD i 0)) ≠ top) : StuAt T top s i := by
  refine ⟨S.nd, S.off, S.on, fun a ha ht => ?_, S.many⟩
  obtain ⟨j, hj, e⟩ := (mem_takeI hi).1 (S.pos a ha ht)
  refine (mem_takeI (Nat.le_of_lt hi)).2 ⟨j, ?_, e⟩
  rcases Nat.lt_or_ge j i with c | c
  · exact c
  · exfalso
    obtain rfl : j = i := by omega
    obtain ⟨h1, h2, h3, _⟩ := S.on a ha
    have hin : T.lits.getD j 0 ∈ T.lits := getD_mem' 0 (by rw [lits_len]; exact hi)
    obtain ⟨e1, e2⟩ := absW_idem h hin
    have ea : absW (T.lits.getD j 0) = a := by rw [e1, e]; omega
    rcases hc with hc | hc
    · rw [ea] at hc; exact h1 hc
    · apply hc
      rw [← ht]
      rw [(at_pos h hi (y := absW (T.lits.getD j 0)) (by rw [e1]; omega)).1, (at_pos h hi (y := s.f a) (by rw [e]; omega)).1]

theorem StuAt.del {T : Trail} (h : Inv T) {top : Int} {s : Stu} {i : Nat} (S : StuAt T top s (i + 1)) (hi : i < T.ents.length) (hc : s.f (absW (T.lits.getD i 0)) ≠ 0) (ht : T.lvl (absW (T.lits.getD i 0)) = top) :
    s.f (absW (T.lits.getD i 0)) = -(T.lits.getD i 0) ∧ absW (T.lits.getD i 0) ∈ s.ks ∧ StuAt T top (s.del (absW (T.lits.getD i 0))) i ∧ (s.del (absW (T.lits.getD i 0))).many = s.many - 1 := by
  have hin : T.lits.getD i 0 ∈ T.lits := getD_mem' 0 (by rw [lits_len]; exact hi)
  obtain ⟨e1, e2⟩ := absW_idem h hin
  generalize hxe : T.lits.getD i 0 = x at *
  have hk : absW x ∈ s.ks := by
    by_cases c : absW x ∈ s.ks
    · exact c
    · exact absurd (S.off _ c) hc
  have hfx : s.f (absW x) = -x := by
    obtain ⟨_, h2, h3, _⟩ := S.on _ hk
    have := same_lit h h3 hin (by omega)
    omega
  have hlx : T.lvl (-x) = top := by
    rw [← ht, (at_pos h hi (y := absW x) (by rw [e1, hxe]; omega)).1, (at_pos h hi (y := -x) (by rw [hxe]; omega)).1]
  have hu : ∀ a, a ≠ absW x → upd s.f (absW x) 0 a = s.f a := fun a ha => by unfold upd; rw [if_neg ha]
  have hme : ∀ a, a ∈ s.ks.erase (absW x) ↔ a ≠ absW x ∧ a ∈ s.ks := fun a => S.nd.mem_erase_iff
  have hlen := S.len h
  have hfl := List.length_filter_le (fun a => T.lvl (s.f a) == top) s.ks
  have hcount : ((s.ks.erase (absW x)).filter fun a => T.lvl (s.f a) == top).length + 1 = (s.ks.filter fun a => T.lvl (s.f a) == top).length := by
    have hp := (List.perm_cons_erase hk).filter (fun a => T.lvl (s.f a) == top)
    rw [hp.length_eq, List.filter_cons, hfx, hlx]
    simp
  have e3 : ((s.ks.erase (absW x)).filter fun a => T.lvl (upd s.f (absW x) 0 a) == top) = (s.ks.erase (absW x)).filter fun a => T.lvl (s.f a) == top :=
    List.filter_congr fun a ha => by rw [hu a ((hme a).1 ha).1]
  have hmany : w64 (s.many - 1) = s.many - 1 := w64_small (by have := S.many; omega)
  refine ⟨hfx, hk, ⟨S.nd.erase _, fun a ha => ?_, fun a ha => ?_, fun a ha => ?_, ?_⟩, hmany⟩
  · have ha : a ∉ s.ks.erase (absW x) := ha
    show upd s.f (absW x) 0 a = 0
    by_cases c : a = absW x
    · unfold upd; rw [if_pos c]
    · rw [hu a c]; exact S.off a fun h2 => ha ((hme a).2 ⟨c, h2⟩)
  · obtain ⟨h1, h2⟩ := (hme a).1 ha
    show upd s.f (absW x) 0 a ≠ 0 ∧ ((upd s.f (absW x) 0 a).natAbs : Int) = a ∧ -(upd s.f (absW x) 0 a) ∈ T.lits ∧ 0 < T.lvl (upd s.f (absW x) 0 a) ∧ T.lvl (upd s.f (absW x) 0 a) ≤ top
    rw [hu a h1]; exact S.on a h2
  · obtain ⟨h1, h2⟩ := (hme a).1 ha
    show T.lvl (upd s.f (absW x) 0 a) = top → -(upd s.f (absW x) 0 a) ∈ T.lits.take i
    rw [hu a h1]
    intro h3
    obtain ⟨j, hj, e⟩ := (mem_takeI hi).1 (S.pos a h2 h3)
    refine (mem_takeI (Nat.le_of_lt hi)).2 ⟨j, ?_, e⟩
    rcases Nat.lt_or_ge j i with c | c
    · exact c
    · exfalso
      obtain rfl : j = i := by omega
      obtain ⟨_, h4, _⟩ := S.on a h2
      rw [hxe] at e
      apply h1
      rw [e1, e]; omega
  · show w64 (s.many - 1) = (((s.ks.erase (absW x)).filter fun a => T.lvl (upd s.f (absW x) 0 a) == top).length : Int)
    rw [hmany, e3]
    have := S.many
    omega

/-- where going ends -/
structure Gone (T : Trail) (D : List (List Int)) (top : Int) (s s' : Stu) (a : Int) : Prop where
  mem : a ∈ s'.ks
  lvl : T.lvl (s'.f a) = top
  at_ : ∃ j, StuAt T top s' j
  one : s'.many = 1
  der : ∀ A, (∀ a ∈ s'.ks, Der A D (-(s'.f a))) → ∀ a ∈ s.ks, Der A D (-(s.f a))

theorem goes_law {T : Trail} (h : Inv T) (hh : T.held) {D : List (List Int)} (hD : T.among D) {top : Int} : ∀ (i : Nat) (s : Stu), StuAt T top s i → 1 ≤ s.many → i ≤ T.ents.length →
    ∃ s' a, T.goes top s (T.lits.take i).reverse = (s', some (s'.f a)) ∧ Gone T D top s s' a
  | 0, s, S, hm, _ => by
    obtain ⟨a, ha, ht⟩ := S.some_top hm
    have := S.pos a ha ht
    simp at this
  | i + 1, s, S, hm, hi => by
    have hi' : i < T.ents.length := by omega
    have hin : T.lits.getD i 0 ∈ T.lits := getD_mem' 0 (by rw [lits_len]; exact hi')
    obtain ⟨e1, e2⟩ := absW_idem h hin
    rw [goes_snoc T top s (by rw [lits_len]; exact hi')]
    by_cases hc : s.f (absW (T.lits.getD i 0)) = 0 ∨ T.lvl (absW (T.lits.getD i 0)) ≠ top
    · rw [goes_skip hc]
      exact goes_law h hh hD i s (S.back h hi' hc) hm (by omega)
    · have hc' := hc
      rw [not_or, Decidable.not_not] at hc'
      obtain ⟨hf, ht⟩ := hc'
      obtain ⟨hfx, hk, S1, hm1⟩ := S.del h hi' hf ht
      have hlx : T.lvl (-(T.lits.getD i 0)) = top := by
        rw [← ht, (at_pos h hi' (y := absW (T.lits.getD i 0)) (by rw [e1]; omega)).1, (at_pos h hi' (y := -(T.lits.getD i 0)) (by omega)).1]
      by_cases h1 : s.many = 1
      · rw [goes_one hc h1]
        exact ⟨s, absW (T.lits.getD i 0), rfl, hk, by rw [hfx]; exact hlx, ⟨_, S⟩, h1, fun A hA => hA⟩
      · obtain ⟨x, hxe⟩ : ∃ x, T.lits.getD i 0 = x := ⟨_, rfl⟩
        have htop : ((T.ent i).2.1 : Int) = top := by rw [← hlx, (at_pos h hi' (y := -(T.lits.getD i 0)) (by omega)).1]
        rcases reason_of h hh hi' hxe (z := x) rfl with ⟨hd, _⟩ | ⟨l, hr, W⟩
        · exfalso
          obtain ⟨a, ha, hne, ht2⟩ := S.two_top (by omega) (absW (T.lits.getD i 0))
          obtain ⟨j, hj, e⟩ := (mem_takeI hi).1 (S.pos a ha ht2)
          obtain ⟨_, h4, _⟩ := S.on a ha
          have hji : j ≠ i := fun e3 => by
            subst e3
            apply hne
            rw [e1, e]; omega
          have h5 := lvl_dec h (show j < i by omega) hi' hd
          have h6 := (at_pos h (show j < T.ents.length by omega) (y := s.f a) (by rw [e]; omega)).1
          omega
        · rw [hxe] at hc S1 hm1 hfx hk
          have hmem : ∀ y ∈ l, -y ∈ T.lits ∧ T.lvl y ≤ top ∧ (T.lvl y = top → -y ∈ T.lits.take i) := fun y hy => by
            obtain ⟨w1, w2⟩ := W.mem y hy
            obtain ⟨j, hj, e⟩ := (mem_takeI (Nat.le_of_lt hi')).1 w1
            have h6 := (at_pos h (show j < T.ents.length by omega) (y := y) (by rw [e]; omega)).1
            have h7 := lvl_mono h (Nat.le_of_lt hj) hi'
            exact ⟨List.mem_of_mem_take w1, by omega, fun _ => w1⟩
          have K := S1.takes h l hmem
          have hm2 : 1 ≤ (T.takes top (s.del (absW x)) l).many := by
            obtain ⟨a, ha, ht2⟩ := S1.some_top (by omega)
            obtain ⟨k1, k2⟩ := K.keep a ha
            have h8 : 0 < ((T.takes top (s.del (absW x)) l).ks.filter fun a => T.lvl ((T.takes top (s.del (absW x)) l).f a) == top).length :=
              List.length_pos_of_mem (List.mem_filter.2 ⟨k1, by rw [k2, ht2]; simp⟩)
            have := K.at_.many
            omega
          obtain ⟨s', a, hg, G⟩ := goes_law h hh hD i _ K.at_ hm2 (by omega)
          rw [hxe, goes_some hc h1 hr]
          refine ⟨s', a, hg, G.mem, G.lvl, G.at_, G.one, fun A hA b hb => ?_⟩
          have hall := G.der A hA
          by_cases hbx : b = absW x
          · subst hbx
            rw [hfx, Int.neg_neg]
            refine W.der h hh hD fun y hy => ?_
            rcases K.got y hy with g | ⟨g1, g2⟩
            · exact absurd g (W.mem y hy).2
            · have := hall _ g1
              rw [g2] at this; exact this
          · have hb1 : b ∈ (s.del (absW x)).ks := S.nd.mem_erase_iff.2 ⟨hbx, hb⟩
            obtain ⟨k1, k2⟩ := K.keep b hb1
            have h9 := hall b k1
            rw [k2] at h9
            have : (s.del (absW x)).f b = s.f b := by show upd s.f (absW x) 0 b = s.f b; unfold upd; rw [if_neg hbx]
            rw [this] at h9; exact h9

/-- what is left out follows of the rest -/
theorem cover_law {T : Trail} (h : Inv T) (hh : T.held) {D : List (List Int)} (hD : T.among D) {top : Int} {s : Stu} {i0 : Nat} (S : StuAt T top s i0) {A : List Int}
    (hf : ∀ a ∈ s.ks, T.covers s (s.f a) = true ∨ Der A D (-(s.f a))) : ∀ (m j : Nat) (a : Int), j < m → j < T.ents.length → a ∈ s.ks → T.lits.getD j 0 = -(s.f a) → Der A D (-(s.f a))
  | 0, _, _, hm, _, _, _ => by omega
  | m + 1, j, a, hm, hj, ha, e => by
    rcases hf a ha with hc | hd
    · have hlit := h.ok.litAt hj
      have hn := h.ok.n
      have hw : w64 (-(s.f a)) = -(s.f a) := w64_small (by omega)
      unfold Trail.covers at hc
      rw [hw] at hc
      rcases reason_of h hh hj e (z := -(s.f a)) rfl with ⟨_, hr⟩ | ⟨l, hr, W⟩
      · rw [hr] at hc; simp at hc
      · rw [hr] at hc
        simp only [Bool.not_eq_true', List.any_eq_false, beq_iff_eq] at hc
        refine W.der h hh hD fun y hy => ?_
        obtain ⟨w1, w2⟩ := W.mem y hy
        obtain ⟨g1, g2⟩ := S.eq h (List.mem_of_mem_take w1) (hc y hy)
        obtain ⟨q, hq, eq⟩ := (mem_takeI (Nat.le_of_lt hj)).1 w1
        have := cover_law h hh hD S hf m q (absW y) (by omega) (by omega) g1 (by rw [g2]; exact eq)
        rw [g2] at this; exact this
    · exact hd

theorem top_fold (T : Trail) : ∀ (c : List Int) (b : Int), b ≤ c.foldl (fun t l => max t (T.lvl l)) b ∧ (∀ y ∈ c, T.lvl y ≤ c.foldl (fun t l => max t (T.lvl l)) b) ∧ (c.foldl (fun t l => max t (T.lvl l)) b = b ∨ ∃ y ∈ c, T.lvl y = c.foldl (fun t l => max t (T.lvl l)) b)
  | [], b => ⟨Int.le_refl _, (fun y hy => by cases hy), .inl rfl⟩
  | x :: r, b => by
    obtain ⟨h1, h2, h3⟩ := top_fold T r (max b (T.lvl x))
    simp only [List.foldl_cons]
    refine ⟨by omega, fun y hy => ?_, ?_⟩
    · rcases List.mem_cons.1 hy with rfl | hy
      · omega
      · exact h2 y hy
    · rcases h3 with h3 | ⟨y, hy, h3⟩
      · by_cases c : b ≤ T.lvl x
        · exact .inr ⟨x, by simp, by rw [h3]; omega⟩
        · exact .inl (by rw [h3]; omega)
      · exact .inr ⟨y, by simp [hy], h3⟩

/-- WHAT A LESSON IS. -/
structure Taught (T : Trail) (D : List (List Int)) (top first : Int) (rest : List Int) : Prop where
  neg : ∀ y ∈ first :: rest, -y ∈ T.lits
  ltop : T.lvl first = top
  lrest : ∀ y ∈ rest, 0 < T.lvl y ∧ T.lvl y < top
  srt : rest.Pairwise fun x y => x.natAbs < y.natAbs
  conf : Conf ((first :: rest).map fun y => -y) D

theorem taught {T : Trail} (h : Inv T) (hh : T.held) {D : List (List Int)} (hD : T.among D) {top : Int} {s : Stu} {j : Nat} (S : StuAt T top s j) {a : Int} (ha : a ∈ s.ks) (hl : T.lvl (s.f a) = top) (h1 : s.many = 1)
    (hconf : ∀ A, (∀ b ∈ s.ks, Der A D (-(s.f b))) → Conf A D) : Taught T D top (s.f a) (T.others s (s.f a)) := by
  have hinj : ∀ b ∈ s.ks, ∀ c ∈ s.ks, s.f b = s.f c → b = c := fun b hb c hc e => by
    have h2 := (S.on b hb).2.1
    have h3 := (S.on c hc).2.1
    rw [e] at h2; omega
  have honly : ∀ b ∈ s.ks, b ≠ a → T.lvl (s.f b) < top := fun b hb hne => by
    have hle := (S.on b hb).2.2.2.2
    rcases Int.lt_or_eq_of_le hle with h2 | h2
    · exact h2
    · exfalso
      have h3 := S.many
      have hnd : (s.ks.filter fun a => T.lvl (s.f a) == top).Nodup := S.nd.filter _
      have m1 : a ∈ s.ks.filter fun a => T.lvl (s.f a) == top := List.mem_filter.2 ⟨ha, by simp [hl]⟩
      have m2 : b ∈ s.ks.filter fun a => T.lvl (s.f a) == top := List.mem_filter.2 ⟨hb, by simp [h2]⟩
      have hlen : (s.ks.filter fun a => T.lvl (s.f a) == top).length = 1 := by omega
      obtain ⟨z, hz⟩ := List.length_eq_one_iff.1 hlen
      rw [hz] at m1 m2
      simp at m1 m2
      exact hne (m2.trans m1.symm)
  have hoth : ∀ y, y ∈ T.others s (s.f a) ↔ ∃ b ∈ s.ks, s.f b = y ∧ b ≠ a ∧ T.covers s y = false := fun y => by
    unfold Trail.others
    rw [List.mem_filter, List.mem_map]
    constructor
    · rintro ⟨⟨b, hb, rfl⟩, h2⟩
      simp only [Bool.not_or, Bool.and_eq_true, Bool.not_eq_true', beq_eq_false_iff_ne] at h2
      exact ⟨b, mem_sortI.1 hb, rfl, fun e => h2.1 (by rw [e]), h2.2⟩
    · rintro ⟨b, hb, rfl, hne, h2⟩
      refine ⟨⟨b, mem_sortI.2 hb, rfl⟩, ?_⟩
      simp only [Bool.not_or, Bool.and_eq_true, Bool.not_eq_true', beq_eq_false_iff_ne]
      exact ⟨fun e => hne (hinj b hb a ha e), h2⟩
  refine ⟨fun y hy => ?_, hl, fun y hy => ?_, ?_, ?_⟩
  · rcases List.mem_cons.1 hy with rfl | hy
    · exact (S.on a ha).2.2.1
    · obtain ⟨b, hb, rfl, _, _⟩ := (hoth y).1 hy
      exact (S.on b hb).2.2.1
  · obtain ⟨b, hb, rfl, hne, _⟩ := (hoth y).1 hy
    exact ⟨(S.on b hb).2.2.2.1, honly b hb hne⟩
  · unfold Trail.others
    refine List.Pairwise.filter _ (List.pairwise_map.2 ?_)
    have hs := sortI_sorted s.ks
    have hnd : (sortI s.ks).Nodup := (sortI_perm s.ks).nodup_iff.2 S.nd
    refine (hs.and hnd).imp_of_mem fun {x y} hx hy hxy => ?_
    have h2 := (S.on x (mem_sortI.1 hx)).2.1
    have h3 := (S.on y (mem_sortI.1 hy)).2.1
    obtain ⟨h4, h5⟩ := hxy
    omega
  · refine hconf _ fun b hb => ?_
    obtain ⟨q, hq, e⟩ := lits_at (S.on b hb).2.2.1
    refine cover_law h hh hD S (fun c hc => ?_) (q + 1) q b (by omega) hq hb e
    by_cases hca : c = a
    · subst hca; exact .inr (Der.base (List.mem_map.2 ⟨s.f c, by simp, rfl⟩))
    · cases hcv : T.covers s (s.f c)
      · exact .inr (Der.base (List.mem_map.2 ⟨s.f c, List.mem_cons_of_mem _ ((hoth _).2 ⟨c, hc, rfl, hca, hcv⟩), rfl⟩))
      · exact .inl rfl

/-- WHAT A CONFLICT TEACHES. -/
theorem lesson_law {T : Trail} (h : Inv T) (hh : T.held) {D : List (List Int)} (hD : T.among D) {k : Nat} (hk : T.live k) (hn : ∀ y ∈ T.cl k, -y ∈ T.lits) :
    T.clauseL k = some (formL (T.cl k)) ∧ ((T.top (formL (T.cl k)) = 0 ∧ T.lesson k = some none ∧ (T.cl k ≠ [] → Conf [] D)) ∨
    (0 < T.top (formL (T.cl k)) ∧ ∃ first rest atoms, T.lesson k = some (some ⟨first :: rest, rest.foldl (fun b l => max b (T.lvl l)) 0, atoms⟩) ∧ Taught T D (T.top (formL (T.cl k))) first rest)) := by
  have hcl : T.clauseL (k : Int) = some (formL (T.cl k)) := by
    unfold Trail.clauseL
    rw [there_iff.2 hk]; simp
  refine ⟨hcl, ?_⟩
  have hn' : ∀ y ∈ formL (T.cl k), -y ∈ T.lits := fun y hy => hn y ((mem_formL _ _).1 hy)
  have hany : (formL (T.cl k)).any (fun l => decide (0 ≤ T.val l)) = false := by
    rw [List.any_eq_false]
    intro y hy
    have := h.ok.neg1.2 (hn' y hy)
    simp [this]
  obtain ⟨t1, t2, t3⟩ := top_fold T (formL (T.cl k)) 0
  have hunf : T.lesson (k : Int) = if T.top (formL (T.cl k)) = 0 then some none else match T.goes (T.top (formL (T.cl k))) (T.takes (T.top (formL (T.cl k))) Stu.new (formL (T.cl k))) T.lits.reverse with
      | (_, none) => none
      | (s, some first) => some (some ⟨first :: T.others s first, (T.others s first).foldl (fun b l => max b (T.lvl l)) 0, sortI s.ms⟩) := by
    unfold Trail.lesson
    rw [hcl]
    simp only [hany]
    rfl
  rw [hunf]
  by_cases h0 : T.top (formL (T.cl k)) = 0
  · rw [if_pos h0]
    refine .inl ⟨h0, rfl, fun hne => ?_⟩
    obtain ⟨d, hd, p⟩ := hD k hk hne
    refine ⟨d, hd, fun y hy => ?_⟩
    have hy' := p.mem_iff.2 hy
    have hyl := hn y hy'
    have hle := t2 y ((mem_formL _ _).2 hy')
    obtain ⟨j, hj, e⟩ := lits_at hyl
    have h2 := (at_pos h hj (y := y) (by rw [e]; omega)).1
    unfold Trail.top at h0
    exact der_zero' h hh hD hyl (by omega)
  · rw [if_neg h0]
    have htop : 0 < T.top (formL (T.cl k)) := by unfold Trail.top at h0 ⊢; omega
    refine .inr ⟨htop, ?_⟩
    generalize hte : T.top (formL (T.cl k)) = top at *
    have htl : T.lits.take T.ents.length = T.lits := List.take_of_length_le (by rw [lits_len]; exact Nat.le_refl _)
    have hmem : ∀ y ∈ formL (T.cl k), -y ∈ T.lits ∧ T.lvl y ≤ top ∧ (T.lvl y = top → -y ∈ T.lits.take T.ents.length) := fun y hy =>
      ⟨hn' y hy, by rw [← hte]; exact t2 y hy, fun _ => by rw [htl]; exact hn' y hy⟩
    have K := (StuAt.new T top T.ents.length).takes h _ hmem
    have hm : 1 ≤ (T.takes top Stu.new (formL (T.cl k))).many := by
      rcases t3 with t3 | ⟨y, hy, t3⟩
      · exfalso; unfold Trail.top at hte; omega
      · have hly : T.lvl y = top := by rw [t3]; exact hte
        rcases K.got y hy with g | ⟨g1, g2⟩
        · omega
        · have h8 : 0 < ((T.takes top Stu.new (formL (T.cl k))).ks.filter fun a => T.lvl ((T.takes top Stu.new (formL (T.cl k))).f a) == top).length :=
            List.length_pos_of_mem (List.mem_filter.2 ⟨g1, by rw [g2, hly]; simp⟩)
          have := K.at_.many
          omega
    obtain ⟨s', a, hg, G⟩ := goes_law h hh hD T.ents.length _ K.at_ hm (Nat.le_refl _)
    rw [htl] at hg
    rw [hg]
    obtain ⟨j, S'⟩ := G.at_
    refine ⟨_, _, _, rfl, taught h hh hD S' G.mem G.lvl G.one fun A hA => ?_⟩
    have hall := G.der A hA
    have hne : T.cl k ≠ [] := fun e => by
      have : formL (T.cl k) = [] := by
        refine List.eq_nil_iff_forall_not_mem.2 fun y hy => ?_
        have := (mem_formL _ _).1 hy
        rw [e] at this; cases this
      rw [this] at hte
      unfold Trail.top at hte
      simp at hte; omega
    obtain ⟨d, hd, p⟩ := hD k hk hne
    refine ⟨d, hd, fun y hy => ?_⟩
    have hy' := p.mem_iff.2 hy
    rcases K.got y ((mem_formL _ _).2 hy') with g | ⟨g1, g2⟩
    · exact der_zero' h hh hD (hn y hy') g
    · have := hall _ g1
      rw [g2] at this; exact this
end Tr
end Go.Proofs.Ytjedgdamommgeaa

/- What goes and others of package learn tell of a trail: the law of one step. Plain Lean. -/
import Derived.Test.YtjedgdamommgeaaLrn11
set_option linter.unusedVariables false
namespace Go.Proofs.Ytjedgdamommgeaa
open Go.RowKit
open Tr

namespace Tr
open Cnf Up

/-- each reason is there -/
def Trail.held (T : Trail) : Prop := ∀ i, i < T.ents.length → 0 ≤ (T.ent i).2.2 → T.live (T.ent i).2.2.toNat
theorem Inv.held_of {T : Trail} (h : Inv T) (hw : T.whole) : T.held := fun i hi h0 => by
  rcases h.rea i hi with h1 | ⟨_, h2, _⟩
  · omega
  · exact ⟨h2, hw _ h2⟩

/-- the clauses that are there are among D -/
def Trail.among (T : Trail) (D : List (List Int)) : Prop := ∀ k, T.live k → T.cl k ≠ [] → ∃ d ∈ D, (T.cl k).Perm d

theorem lits_at {T : Trail} {x : Int} (hx : x ∈ T.lits) : ∃ i, i < T.ents.length ∧ T.lits.getD i 0 = x := by
  obtain ⟨i, hi, e⟩ := List.getElem_of_mem hx
  exact ⟨i, by rw [lits_len] at hi; exact hi, by rw [List.getD_eq_getElem?_getD, List.getElem?_eq_getElem hi]; exact e⟩
theorem mem_takeI {T : Trail} {x : Int} {i : Nat} (hi : i ≤ T.ents.length) : x ∈ T.lits.take i ↔ ∃ j, j < i ∧ T.lits.getD j 0 = x := by
  constructor
  · intro h
    obtain ⟨j, hj, e⟩ := List.getElem_of_mem h
    rw [List.length_take] at hj
    rw [List.getElem_take] at e
    exact ⟨j, by omega, by rw [List.getD_eq_getElem?_getD, List.getElem?_eq_getElem (by omega)]; exact e⟩
  · rintro ⟨j, hj, e⟩
    rw [← e]
    have hl := lits_len T
    have : (T.lits.take i).getD j 0 = T.lits.getD j 0 := by
      simp only [List.getD_eq_getElem?_getD, List.getElem?_take, if_pos hj]
    rw [← this]
    exact getD_mem' 0 (by rw [List.length_take]; omega)

/-- of an atom on the trail: its level, its reason -/
theorem at_pos {T : Trail} (h : Inv T) {i : Nat} (hi : i < T.ents.length) {y : Int} (hy : y.natAbs = (T.lits.getD i 0).natAbs) : T.lvl y = ((T.ent i).2.1 : Int) ∧ T.why y = (T.ent i).2.2 := by
  have hm := h.ok.litAt hi
  have hn := h.ok.n
  have ha : absW y = (y.natAbs : Int) := absW_lit (n := T.n) (by omega) hn
  have hv : T.val ((y.natAbs : Nat) : Int) ≠ 0 := by
    have hin : T.lits.getD i 0 ∈ T.lits := getD_mem' 0 (by rw [lits_len]; exact hi)
    intro h0
    unfold Trail.val at h0
    obtain ⟨h1, h2⟩ := Up.value_zero.1 h0
    rw [hy] at h1 h2
    rcases Int.natAbs_eq (T.lits.getD i 0) with e | e
    · rw [← e] at h1; exact h1 hin
    · rw [← e] at h2; exact h2 hin
  have hme : T.ent i ∈ T.ents := getD_mem' _ hi
  have he := atomOf_mem (Nod.of_good h.ok.good) hme
  have hnat : ((y.natAbs : Nat) : Int).natAbs = (T.ent i).1.natAbs := by rw [ent_lit]; omega
  unfold Trail.lvl Trail.why Trail.at
  rw [ha, if_pos ⟨by omega, hv⟩, hnat, he]
  exact ⟨rfl, rfl⟩

theorem lvl_mono {T : Trail} (h : Inv T) {i j : Nat} (hij : i ≤ j) (hj : j < T.ents.length) : (T.ent i).2.1 ≤ (T.ent j).2.1 := by
  rw [h.lvl i (by omega), h.lvl j hj]
  refine List.Sublist.length_le ?_
  have : (T.levels.filter fun x => decide (x.1 ≤ i)) = (T.levels.filter fun x => decide (x.1 ≤ j)).filter fun x => decide (x.1 ≤ i) := by
    rw [List.filter_filter]
    refine List.filter_congr fun x _ => ?_
    by_cases c : x.1 ≤ i
    · simp [c, show x.1 ≤ j by omega]
    · simp [c]
  rw [this]
  exact List.filter_sublist

theorem lvl_dec {T : Trail} (h : Inv T) {i j : Nat} (hij : i < j) (hj : j < T.ents.length) (hd : (T.ent j).2.2 = -1) : (T.ent i).2.1 < (T.ent j).2.1 := by
  obtain ⟨z, hz, e⟩ := (h.dec j hj).1 hd
  rw [h.lvl i (by omega), h.lvl j hj]
  have hs : ((T.levels.filter fun x => decide (x.1 ≤ i)) ++ (T.levels.filter fun x => decide (x.1 = j))).length ≤ (T.levels.filter fun x => decide (x.1 ≤ j)).length := by
    rw [List.length_append, ← List.countP_eq_length_filter, ← List.countP_eq_length_filter, ← List.countP_eq_length_filter]
    clear hz
    induction T.levels with
    | nil => simp
    | cons a r ih =>
      simp only [List.countP_cons, decide_eq_true_eq]
      split <;> split <;> split <;> omega
  have h1 : 0 < (T.levels.filter fun x => decide (x.1 = j)).length := List.length_pos_of_mem (List.mem_filter.2 ⟨hz, by simpa using e⟩)
  rw [List.length_append] at hs
  omega

theorem lvl_pos {T : Trail} (h : Inv T) {j : Nat} (hj : j < T.ents.length) (hd : (T.ent j).2.2 = -1) : 0 < (T.ent j).2.1 := by
  obtain ⟨z, hz, e⟩ := (h.dec j hj).1 hd
  rw [h.lvl j hj]
  exact List.length_pos_of_mem (List.mem_filter.2 ⟨hz, by simp [e]⟩)

/-- two literals of the trail of one atom are one -/
theorem same_lit {T : Trail} (h : Inv T) {x y : Int} (hx : x ∈ T.lits) (hy : y ∈ T.lits) (e : x.natAbs = y.natAbs) : x = y := by
  rcases Int.natAbs_eq_natAbs_iff.1 e with e | e
  · exact e
  · subst e
    exact absurd (h.ok.good.cons hy hx) id

/-- the reason of a literal, opened -/
structure Why (T : Trail) (i : Nat) (x : Int) (l : List Int) : Prop where
  r0 : 0 ≤ (T.ent i).2.2
  live : T.live (T.ent i).2.2.toNat
  cause : Cause T.lits (T.cl (T.ent i).2.2.toNat) x i
  oth : ∀ y ∈ T.cl (T.ent i).2.2.toNat, y ≠ x → -y ∈ T.lits.take i ∧ (T.lvl y = 0 ∨ y ∈ l)
  mem : ∀ y ∈ l, -y ∈ T.lits.take i ∧ T.lvl y ≠ 0

theorem reason_of {T : Trail} (h : Inv T) (hh : T.held) {i : Nat} (hi : i < T.ents.length) {x : Int} (hx : T.lits.getD i 0 = x) {z : Int} (hz : z.natAbs = x.natAbs) :
    ((T.ent i).2.2 = -1 ∧ T.reasonL z = none) ∨ ∃ l, T.reasonL z = some l ∧ Why T i x l := by
  have hm := h.ok.litAt hi
  have hn := h.ok.n
  obtain ⟨hl, hw⟩ := at_pos h hi (y := z) (by rw [hz, hx])
  rcases h.rea i hi with h1 | ⟨h0, hk, hc⟩
  · refine .inl ⟨h1, ?_⟩
    unfold Trail.reasonL
    rw [hw, h1]; rfl
  · have hlv := hh i hi h0
    have hth : T.there (T.ent i).2.2 = true := by
      have := there_iff.2 hlv
      rwa [Int.toNat_of_nonneg h0] at this
    rw [ent_lit, hx] at hc
    have hg := h.ok.cls _ (getD_mem' [] hk : T.cl (T.ent i).2.2.toNat ∈ T.cls)
    refine .inr ⟨(formL (T.cl (T.ent i).2.2.toNat)).filter fun y => !T.rsP z y, ?_, h0, hlv, hc, fun y hy hne => ⟨hc.oth y hy hne, ?_⟩, fun y hy => ?_⟩
    · unfold Trail.reasonL
      rw [hw, if_neg (by omega)]
      unfold Trail.clauseL
      rw [hth]; rfl
    · by_cases h0 : T.lvl y = 0
      · exact .inl h0
      · refine .inr (List.mem_filter.2 ⟨(mem_formL _ _).2 hy, ?_⟩)
        unfold Trail.rsP
        rw [absW_lit (hg.lit y hy) hn, absW_lit (n := T.n) (x := z) (by rw [hx] at hm; omega) hn]
        have hne2 : y.natAbs ≠ x.natAbs := by
          intro e
          rcases Int.natAbs_eq_natAbs_iff.1 e with e | e
          · exact hne e
          · subst e
            exact absurd (hg.cons hc.mem hy) id
        simp only [Bool.not_or, Bool.and_eq_true, Bool.not_eq_true', beq_eq_false_iff_ne]
        exact ⟨by omega, h0⟩
    · obtain ⟨h1, h2⟩ := List.mem_filter.1 hy
      have hy1 := (mem_formL _ _).1 h1
      unfold Trail.rsP at h2
      simp only [Bool.not_or, Bool.and_eq_true, Bool.not_eq_true', beq_eq_false_iff_ne] at h2
      refine ⟨hc.oth y hy1 fun e => ?_, h2.2⟩
      subst e
      apply h2.1
      rw [absW_lit (hg.lit y hy1) hn, absW_lit (n := T.n) (x := z) (by rw [hx] at hm; omega) hn]
      omega

/-- what is of the level 0 follows at once -/
theorem der_zero {T : Trail} (h : Inv T) (hh : T.held) {D : List (List Int)} (hD : T.among D) {A : List Int} : ∀ (m i : Nat), i < m → i < T.ents.length → (T.ent i).2.1 = 0 → Der A D (T.lits.getD i 0)
  | 0, _, hm, _, _ => by omega
  | m + 1, i, hm, hi, h0 => by
    rcases reason_of h hh hi rfl rfl with ⟨h1, _⟩ | ⟨l, _, W⟩
    · have := lvl_pos h hi h1; omega
    · obtain ⟨d, hd, p⟩ := hD _ W.live (fun e => by have := W.cause.mem; rw [e] at this; cases this)
      refine Der.unit hd (p.mem_iff.1 W.cause.mem) fun y hy hne => ?_
      obtain ⟨j, hj, e⟩ := (mem_takeI (Nat.le_of_lt hi)).1 (W.oth y (p.mem_iff.2 hy) hne).1
      rw [← e]
      exact der_zero h hh hD m j (by omega) (by omega) (by have := lvl_mono h (Nat.le_of_lt hj) hi; omega)

theorem der_zero' {T : Trail} (h : Inv T) (hh : T.held) {D : List (List Int)} (hD : T.among D) {A : List Int} {y : Int} (hy : -y ∈ T.lits) (h0 : T.lvl y = 0) : Der A D (-y) := by
  obtain ⟨i, hi, e⟩ := lits_at hy
  have := (at_pos h hi (y := y) (by rw [e]; omega)).1
  rw [← e]
  exact der_zero h hh hD (i + 1) i (by omega) hi (by omega)

/-- a literal by its reason -/
theorem Why.der {T : Trail} (h : Inv T) (hh : T.held) {D : List (List Int)} (hD : T.among D) {A : List Int} {i : Nat} {x : Int} {l : List Int} (W : Why T i x l) (hl : ∀ y ∈ l, Der A D (-y)) : Der A D x := by
  obtain ⟨d, hd, p⟩ := hD _ W.live (fun e => by have := W.cause.mem; rw [e] at this; cases this)
  refine Der.unit hd (p.mem_iff.1 W.cause.mem) fun y hy hne => ?_
  obtain ⟨h1, h2⟩ := W.oth y (p.mem_iff.2 hy) hne
  rcases h2 with h2 | h2
  · exact der_zero' h hh hD (List.mem_of_mem_take h1) h2
  · exact hl y h2

/-- WHAT A STUDENT HOLDS, when what stands from i on was gone through. -/
structure StuAt (T : Trail) (top : Int) (s : Stu) (i : Nat) : Prop where
  nd : s.ks.Nodup
  off : ∀ a, a ∉ s.ks → s.f a = 0
  on : ∀ a ∈ s.ks, s.f a ≠ 0 ∧ ((s.f a).natAbs : Int) = a ∧ -(s.f a) ∈ T.lits ∧ 0 < T.lvl (s.f a) ∧ T.lvl (s.f a) ≤ top
  pos : ∀ a ∈ s.ks, T.lvl (s.f a) = top → -(s.f a) ∈ T.lits.take i
  many : s.many = ((s.ks.filter fun a => T.lvl (s.f a) == top).length : Int)

theorem StuAt.new (T : Trail) (top : Int) (i : Nat) : StuAt T top Stu.new i :=
  ⟨List.nodup_nil, fun _ _ => rfl, (fun a ha => by cases ha), (fun a ha => by cases ha), rfl⟩

/-- the literal of an atom in the student's hand, known by its atom -/
theorem StuAt.eq {T : Trail} (h : Inv T) {top : Int} {s : Stu} {i : Nat} (S : StuAt T top s i) {x : Int} (hx : -x ∈ T.lits) (hf : s.f (absW x) ≠ 0) : absW x ∈ s.ks ∧ s.f (absW x) = x := by
  have hk : absW x ∈ s.ks := by
    by_cases c : absW x ∈ s.ks
    · exact c
    · exact absurd (S.off _ c) hf
  obtain ⟨_, h2, h3, _⟩ := S.on _ hk
  have hxn : x ≠ 0 ∧ x.natAbs ≤ T.n := by have := h.ok.good.lit _ hx; omega
  rw [absW_lit hxn h.ok.n] at h2 h3 hk ⊢
  refine ⟨hk, ?_⟩
  have := same_lit h h3 hx (by omega)
  omega

theorem StuAt.len {T : Trail} (h : Inv T) {top : Int} {s : Stu} {i : Nat} (S : StuAt T top s i) : s.ks.length ≤ 65536 := by
  have := keys_len (n := T.n) (fun x hx => by
    obtain ⟨h1, h2, h3, _⟩ := S.on x hx
    have := h.ok.good.lit _ h3
    omega) S.nd
  have := h.ok.n
  omega

theorem w64_small {x : Int} (h : -100000 ≤ x ∧ x ≤ 100000) : w64 x = x := IntWalk.i64_in _ (by omega)

theorem StuAt.lit {T : Trail} (h : Inv T) {x : Int} (hx : -x ∈ T.lits) : x ≠ 0 ∧ x.natAbs ≤ T.n ∧ absW x = (x.natAbs : Int) := by
  have := h.ok.good.lit _ hx
  exact ⟨by omega, by omega, absW_lit (n := T.n) (by omega) h.ok.n⟩

/-- what a literal that is taken in leaves -/
structure Took (T : Trail) (top : Int) (s : Stu) (x : Int) (i : Nat) (s' : Stu) : Prop where
  at_ : StuAt T top s' i
  keep : ∀ a ∈ s.ks, a ∈ s'.ks ∧ s'.f a = s.f a
  got : T.lvl x = 0 ∨ (absW x ∈ s'.ks ∧ s'.f (absW x) = x)

theorem StuAt.take1 {T : Trail} (h : Inv T) {top : Int} {s : Stu} {i : Nat} (S : StuAt T top s i) {x : Int} (hx : -x ∈ T.lits) (hl : T.lvl x ≤ top) (hp : T.lvl x = top → -x ∈ T.lits.take i) : Took T top s x i (T.take1 top s x) := by
  obtain ⟨x0, xn, xa⟩ := StuAt.lit h hx
  unfold Trail.take1
  split
  · rename_i hc
    refine ⟨S, fun a ha => ⟨ha, rfl⟩, ?_⟩
    rcases hc with hc | hc
    · exact .inl hc
    · exact .inr (S.eq h hx hc)
  · rename_i hc
    rw [not_or] at hc
    obtain ⟨hc1, hc2⟩ := hc
    have hf0 : s.f (absW x) = 0 := by by_cases c : s.f (absW x) = 0; exact c; exact absurd c hc2
    have hnk : absW x ∉ s.ks := fun hk => (S.on _ hk).1 hf0
    have hadd : addK s.ks (absW x) = s.ks ++ [absW x] := by unfold addK; rw [if_neg hnk]
    have hlv : 0 < T.lvl x := by
      obtain ⟨j, hj, e⟩ := lits_at hx
      have := (at_pos h hj (y := x) (by rw [e]; omega)).1
      omega
    have hu : ∀ a ∈ s.ks, upd s.f (absW x) x a = s.f a := fun a ha => by
      have hne : a ≠ absW x := fun e => by rw [e] at ha; exact hnk ha
      unfold upd; rw [if_neg hne]
    have hux : upd s.f (absW x) x (absW x) = x := by unfold upd; rw [if_pos rfl]
    have hlen := S.len h
    have hfl := List.length_filter_le (fun a => T.lvl (s.f a) == top) s.ks
    refine ⟨⟨?_, fun a ha => ?_, fun a ha => ?_, fun a ha => ?_, ?_⟩, fun a ha => ⟨?_, hu a ha⟩, .inr ⟨?_, hux⟩⟩
    · show (addK s.ks (absW x)).Nodup
      rw [hadd, List.nodup_append]
      exact ⟨S.nd, by simp, fun a ha b hb e => by
        rw [List.mem_singleton] at hb
        rw [e, hb] at ha; exact hnk ha⟩
    · have ha : a ∉ addK s.ks (absW x) := ha
      rw [hadd] at ha
      simp only [List.mem_append, List.mem_singleton, not_or] at ha
      show upd s.f (absW x) x a = 0
      unfold upd
      rw [if_neg ha.2]
      exact S.off a ha.1
    · have ha : a ∈ addK s.ks (absW x) := ha
      show upd s.f (absW x) x a ≠ 0 ∧ ((upd s.f (absW x) x a).natAbs : Int) = a ∧ -(upd s.f (absW x) x a) ∈ T.lits ∧ 0 < T.lvl (upd s.f (absW x) x a) ∧ T.lvl (upd s.f (absW x) x a) ≤ top
      rw [hadd] at ha
      rcases List.mem_append.1 ha with ha | ha
      · rw [hu a ha]; exact S.on a ha
      · simp at ha; subst ha
        rw [hux]
        exact ⟨x0, xa.symm, hx, hlv, hl⟩
    · have ha : a ∈ addK s.ks (absW x) := ha
      show T.lvl (upd s.f (absW x) x a) = top → -(upd s.f (absW x) x a) ∈ T.lits.take i
      rw [hadd] at ha
      rcases List.mem_append.1 ha with ha | ha
      · rw [hu a ha]; exact S.pos a ha
      · simp at ha; subst ha
        rw [hux]
        exact hp
    · show (if T.lvl x = top then w64 (s.many + 1) else s.many) = (((addK s.ks (absW x)).filter fun a => T.lvl (upd s.f (absW x) x a) == top).length : Int)
      rw [hadd, List.filter_append, List.length_append]
      have e1 : (s.ks.filter fun a => T.lvl (upd s.f (absW x) x a) == top) = s.ks.filter fun a => T.lvl (s.f a) == top := List.filter_congr fun a ha => by rw [hu a ha]
      rw [e1]
      have hm := S.many
      by_cases c : T.lvl x = top
      · rw [if_pos c, w64_small (by omega)]
        have : (([absW x] : List Int).filter fun a => T.lvl (upd s.f (absW x) x a) == top) = [absW x] := by
          rw [List.filter_cons, hux]; simp [c]
        rw [this]
        simp only [List.length_singleton]
        omega
      · rw [if_neg c]
        have : (([absW x] : List Int).filter fun a => T.lvl (upd s.f (absW x) x a) == top) = [] := by
          rw [List.filter_cons, hux]; simp [c]
        rw [this]
        simp only [List.length_nil]
        omega
    · show a ∈ addK s.ks (absW x)
      rw [hadd]; exact List.mem_append_left _ ha
    · show absW x ∈ addK s.ks (absW x)
      rw [hadd]; simp

/-- and what several leave -/
structure TookAll (T : Trail) (top : Int) (s : Stu) (l : List Int) (i : Nat) (s' : Stu) : Prop where
  at_ : StuAt T top s' i
  keep : ∀ a ∈ s.ks, a ∈ s'.ks ∧ s'.f a = s.f a
  got : ∀ x ∈ l, T.lvl x = 0 ∨ (absW x ∈ s'.ks ∧ s'.f (absW x) = x)

theorem StuAt.takes {T : Trail} (h : Inv T) {top : Int} {i : Nat} : ∀ (l : List Int) {s : Stu}, StuAt T top s i → (∀ x ∈ l, -x ∈ T.lits ∧ T.lvl x ≤ top ∧ (T.lvl x = top → -x ∈ T.lits.take i)) → TookAll T top s l i (T.takes top s l)
  | [], s, S, _ => ⟨S, fun a ha => ⟨ha, rfl⟩, fun x hx => by cases hx⟩
  | x :: r, s, S, hl => by
    obtain ⟨h1, h2, h3⟩ := hl x (by simp)
    have K := S.take1 h h1 h2 h3
    have R := StuAt.takes h r K.at_ (fun y hy => hl y (by simp [hy]))
    have e : T.takes top s (x :: r) = T.takes top (T.take1 top s x) r := rfl
    rw [e]
    refine ⟨R.at_, fun a ha => ?_, fun y hy => ?_⟩
    · obtain ⟨k1, k2⟩ := K.keep a ha
      obtain ⟨r1, r2⟩ := R.keep a k1
      exact ⟨r1, r2.trans k2⟩
    · rcases List.mem_cons.1 hy with rfl | hy
      · rcases K.got with g | ⟨g1, g2⟩
        · exact .inl g
        · obtain ⟨r1, r2⟩ := R.keep _ g1
          exact .inr ⟨r1, r2.trans g2⟩
      · exact R.got y hy
end Tr
end Go.Proofs.Ytjedgdamommgeaa

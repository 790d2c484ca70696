/- What LearnTeaches and LearnSame ask of a lesson. Plain Lean. -/
import Derived.Test.YtjedgdamommgeaaLrnP4
import Derived.Test.YtjedgdamommgeaaSatB
set_option linter.unusedVariables false
namespace Go.Proofs.Ytjedgdamommgeaa
open Go.RowKit
open Tr

namespace Tr
open Cnf Up

theorem lvl_split {T : Trail} (h : Inv T) {k j : Nat} (hk : k < T.levels.length) (hj : j < T.ents.length) : (T.ent j).2.1 ≤ k ↔ j < (T.levels.getD k (0, 0)).1 := by
  rw [h.lvl j hj]
  have hs := h.ok.lev
  have hsplit : T.levels = T.levels.take k ++ T.levels.drop k := (List.take_append_drop k _).symm
  have hd : T.levels.drop k = T.levels.getD k (0, 0) :: T.levels.drop (k + 1) := by
    rw [List.drop_eq_getElem_cons hk]
    simp [List.getD_eq_getElem?_getD, hk]
  have hs2 : ((T.levels.take k ++ T.levels.drop k).map (·.1)).Pairwise (· < ·) := by rw [← hsplit]; exact hs
  rw [List.map_append, List.pairwise_append] at hs2
  obtain ⟨_, p2, p3⟩ := hs2
  have hlen : (T.levels.take k).length = k := by rw [List.length_take]; omega
  have hfl := List.length_filter_le (fun x : Nat × Nat => decide (x.1 ≤ j)) (T.levels.take k)
  conv => lhs; rw [hsplit, List.filter_append, List.length_append]
  rw [hd] at p2 p3 ⊢
  generalize T.levels.getD k (0, 0) = e at *
  constructor
  · intro hle
    rcases Nat.lt_or_ge j e.1 with c | c
    · exact c
    · exfalso
      have h1 : (T.levels.take k).filter (fun x => decide (x.1 ≤ j)) = T.levels.take k := by
        refine List.filter_eq_self.2 fun x hx => ?_
        have := p3 x.1 (List.mem_map.2 ⟨x, hx, rfl⟩) e.1 (by simp)
        simp; omega
      rw [h1, hlen, List.filter_cons, if_pos (by simpa using c), List.length_cons] at hle
      omega
  · intro hlt
    have h2 : (e :: T.levels.drop (k + 1)).filter (fun x => decide (x.1 ≤ j)) = [] := by
      refine List.filter_eq_nil_iff.2 fun x hx => ?_
      rcases List.mem_cons.1 hx with rfl | hx
      · simp; omega
      · rw [List.map_cons, List.pairwise_cons] at p2
        have := p2.1 x.1 (List.mem_map.2 ⟨x, hx, rfl⟩)
        simp; omega
    rw [h2]
    simp only [List.length_nil]
    omega

theorem backTo_lits (T : Trail) (k : Nat) : (T.backTo k).lits = T.lits.take (T.levels.getD k (0, 0)).1 := by
  unfold Trail.backTo Trail.lits
  rw [List.map_take]

theorem lvl_le {T : Trail} (h : Inv T) {y : Int} (hy : -y ∈ T.lits) : 0 ≤ T.lvl y ∧ T.lvl y ≤ T.levels.length := by
  obtain ⟨j, hj, e⟩ := lits_at hy
  have h1 := (at_pos h hj (y := y) (by rw [e]; omega)).1
  have h2 := h.lvl j hj
  have h3 := List.length_filter_le (fun x : Nat × Nat => decide (x.1 ≤ j)) T.levels
  omega

/-- gone back, what was of a higher level is open, all else is as it was -/
theorem back_val {T : Trail} (h : Inv T) {k : Nat} (hk : k < T.levels.length) {y : Int} (hy : -y ∈ T.lits) : (T.back (k : Int)).val y = if T.lvl y ≤ k then -1 else 0 := by
  have hb : T.back (k : Int) = T.backTo k := by unfold Trail.back; rw [if_pos (by simpa using hk)]; simp
  have hi := h.backTo hk
  obtain ⟨j, hj, e⟩ := lits_at hy
  have h1 := (at_pos h hj (y := y) (by rw [e]; omega)).1
  have h2 := lvl_split h hk hj
  have hx : (T.levels.getD k (0, 0)).1 ≤ T.ents.length := Nat.le_of_lt (h.ok.lin _ (getD_mem' _ hk))
  rw [hb]
  by_cases c : T.lvl y ≤ k
  · rw [if_pos c, hi.ok.neg1, backTo_lits]
    exact (mem_takeI hx).2 ⟨j, h2.1 (by omega), e⟩
  · rw [if_neg c]
    unfold Trail.val
    rw [Up.value_zero, backTo_lits]
    have hnm : ∀ z, z.natAbs = y.natAbs → z ∉ T.lits.take (T.levels.getD k (0, 0)).1 := fun z hz hm => by
      obtain ⟨q, hq, eq⟩ := (mem_takeI hx).1 hm
      have h3 := (at_pos h (show q < T.ents.length by omega) (y := y) (by rw [eq]; omega)).1
      have h4 := (lvl_split h hk (show q < T.ents.length by omega)).2 hq
      omega
    exact ⟨hnm y rfl, hnm (-y) (by omega)⟩

/-- a lesson, its literals one by one -/
theorem Taught.good {T : Trail} {D : List (List Int)} {top first : Int} {rest : List Int} (h : Inv T) (W : Taught T D top first rest) : Up.Good T.n (first :: rest) := by
  refine ⟨fun y hy => by have := h.ok.good.lit _ (W.neg y hy); omega, ?_⟩
  rw [List.map_cons, List.nodup_cons]
  constructor
  · intro hm
    obtain ⟨y, hy, e⟩ := List.mem_map.1 hm
    have h1 := W.lrest y hy
    obtain ⟨j, hj, ej⟩ := lits_at (W.neg y (by simp [hy]))
    have h2 := (at_pos h hj (y := y) (by rw [ej]; omega)).1
    have h3 := (at_pos h hj (y := first) (by rw [ej]; omega)).1
    have h4 := W.ltop
    omega
  · unfold List.Nodup
    rw [List.pairwise_map]
    exact W.srt.imp fun h => Nat.ne_of_lt h

theorem good_neg {n : Nat} {c : List Int} (h : Up.Good n c) : Up.Good n (c.map fun y => -y) := by
  refine ⟨fun y hy => ?_, ?_⟩
  · obtain ⟨x, hx, rfl⟩ := List.mem_map.1 hy
    have := h.lit x hx; omega
  · rw [List.map_map]
    have : (Int.natAbs ∘ fun y : Int => -y) = Int.natAbs := by funext y; simp
    rw [this]; exact h.nod

/-- the document's closing of what is assumed against a lesson meets a conflict -/
theorem against_conf {n : Nat} {A : List Int} {cs : List (List Int)} (hA : Up.Good n A) (hC : ∀ c ∈ cs, Cls n c) (h : Conf A cs) : (allR cs (n + 1) A).2 = true :=
  (allR_iff hC (n + 1) A hA (fun _ h => h) (fun _ h => Der.base h) (by omega)).2 h

theorem rest_max (T : Trail) (rest : List Int) (top : Int) (h : ∀ y ∈ rest, 0 < T.lvl y ∧ T.lvl y < top) (ht : 0 < top) :
    0 ≤ rest.foldl (fun b l => max b (T.lvl l)) 0 ∧ rest.foldl (fun b l => max b (T.lvl l)) 0 < top ∧ ∀ y ∈ rest, T.lvl y ≤ rest.foldl (fun b l => max b (T.lvl l)) 0 := by
  obtain ⟨t1, t2, t3⟩ := top_fold T rest 0
  refine ⟨t1, ?_, t2⟩
  rcases t3 with t3 | ⟨y, hy, t3⟩
  · omega
  · rw [← t3]; exact (h y hy).2

/-- a model of the clauses is one of the lesson -/
theorem taught_model {T : Trail} (h : Inv T) {D : List (List Int)} {top first : Int} {rest : List Int} (W : Taught T D top first rest) (hlit : ∀ c ∈ D, ∀ x ∈ c, Cnf.Lit x) {m : List Bool} (hm : holdsB D m = true) : holdsB [first :: rest] m = true := by
  have hg := W.good h
  have hn := h.ok.n
  have hl : ∀ x ∈ first :: rest, Cnf.Lit x := fun x hx => lit_of (hg.lit x hx).1 (by have := (hg.lit x hx).2; omega)
  unfold holdsB
  simp only [List.all_cons, List.all_nil, Bool.and_true]
  cases hc : (first :: rest).any fun x => soB x m
  · exfalso
    rw [List.any_eq_false] at hc
    refine Rup.conf_not (m := m) hlit (fun x hx => ?_) (Rup.holds_sat hm) W.conf
    obtain ⟨y, hy, rfl⟩ := List.mem_map.1 hx
    rw [Rup.so_neg (hl y hy)]
    have := hc y hy
    simp at this
    rw [this]; rfl
  · rfl
end Tr
end Go.Proofs.Ytjedgdamommgeaa

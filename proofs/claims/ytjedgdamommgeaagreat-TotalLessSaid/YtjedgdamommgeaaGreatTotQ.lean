/- Questions about counts. Plain Lean. -/
import Derived.Test.YtjedgdamommgeaaGreatTotP
import Derived.Test.YtjedgdamommgeaaGreatSolD
set_option linter.unusedVariables false
namespace Go.Proofs.YtjedgdamommgeaaGreat
open Go.RowKit
open Cnf (soB)
theorem calm_of {n : Nat} {O : List (List Int)} {base rest : List Int} (d : Sv.Det n O base) {m : List Bool} (hm : Rup.Sat O m) (hb : ∀ a ∈ base, soB a m = true) (has : ∀ a ∈ base ++ rest, a ≠ 0 ∧ a.natAbs ≤ n) {S0 : Sv.St} (h : Sv.Holds n O S0) (hi : Sv.InM m S0.T) : Calm (base ++ rest) S0 := by
 have key : ∀ S, DecReach (base ++ rest) S0 S → Sv.Holds n O S ∧ Sv.InM m S.T := by
  intro S hS
  induction hS with
  | refl => exact ⟨h, hi⟩
  | @ask S T' l _ hf ha ih =>
   obtain ⟨h, hi⟩ := ih
   have h1 := h.foll hf
   have hi1 := Sv.foll_inM h hm hf hi
   have sp := Sv.asks_spec (T := T') (qs := base ++ rest)
   rw [ha] at sp
   have hl := has l sp.1
   have hso : soB l m = true := by
    rcases Sv.asks_base ha with h2 | ⟨h2, h3⟩
    ·exact hb l h2
    ·exfalso
     have hv := d.all h hf h2 l.natAbs (by omega) hl.2
     apply hv
     have h0 : T'.val l = 0 := sp.2
     rcases Int.natAbs_eq l with e | e
     ·rw [← e]; exact h0
     ·rw [show (l.natAbs : Int) = -l by omega, Tr.val_neg h1.inv.ok]
      show - T'.val l = 0
      rw [h0]; rfl
   refine ⟨h1.dec (by show l ≠ 0 ∧ l.natAbs ≤ T'.n; rw [show T'.n = n from h1.hn]; exact hl) sp.2, fun x hx => ?_⟩
   have hls : (T'.dec l).lits = T'.lits ++ [l] := Tr.lits_put _ l (-1)
   have hx : x ∈ (T'.dec l).lits := hx
   rw [hls, List.mem_append, List.mem_singleton] at hx
   rcases hx with hx | rfl
   ·exact hi1 x hx
   ·exact hso
  | @pick S T' l _ hf ha hl hv ih =>
   exfalso
   obtain ⟨h, hi⟩ := ih
   have h1 := h.foll hf
   have sp := Sv.asks_spec (T := T') (qs := base ++ rest)
   rw [ha] at sp
   have hT' : T'.n = n := h1.hn
   have hv2 := d.all h hf (fun a ha => sp a (List.mem_append_left _ ha)) l.natAbs (by omega) (by omega)
   apply hv2
   rcases Int.natAbs_eq l with e | e
   ·rw [← e]; exact hv
   ·rw [show (l.natAbs : Int) = -l by omega, Tr.val_neg h1.inv.ok]
    show - T'.val l = 0
    rw [hv]; rfl
 intro S1 hS T' k _ hf hk _
 obtain ⟨h, hi⟩ := key S1 hS
 have := Sv.no_conflict h hm hf hi
 omega
namespace Tot
open Cnf Up
def modOf (n : Nat) (s : Nat → Bool) : List Bool := (List.range n).map fun (i : Nat) => s (i + 1)
theorem so_T {n : Nat} (hn : n ≤ 65536) (s : Nat → Bool) {x : Int} (hx : Vd n x) : soB x (modOf n s) = T s x := by
 obtain ⟨h0, hle⟩ := hx
 have hl := Tr.lit_of h0 (show x.natAbs ≤ 65536 by omega)
 have hget : (modOf n s).getD (x.natAbs - 1) false = s x.natAbs := by
  unfold modOf
  rw [List.getD_eq_getElem?_getD, List.getElem?_map, List.getElem?_range (by omega)]
  simp only [Option.map_some, Option.getD_some]
  rw [show x.natAbs - 1 + 1 = x.natAbs by omega]
 unfold soB T
 rw [hl.w]
 simp only [Bool.false_eq_true, if_false, hget]
 by_cases hneg : x < 0
 ·rw [if_pos hneg, decide_eq_false (by omega)]; cases s x.natAbs <;> rfl
 ·rw [if_neg hneg, decide_eq_true (by omega)]; cases s x.natAbs <;> rfl
def litsOf (n : Nat) (M : List Bool) : List Int := (List.range n).map fun (i : Nat) => if M.getD i false then (i : Int) + 1 else -((i : Int) + 1)
theorem soB_at {n : Nat} (hn : n ≤ 65536) {x : Int} (hx : Vd n x) (M : List Bool) : soB x M = (decide (0 < x) == M.getD (x.natAbs - 1) false) := by
 obtain ⟨h0, hle⟩ := hx
 have hl := Tr.lit_of h0 (show x.natAbs ≤ 65536 by omega)
 unfold soB
 rw [hl.w]
 simp only [Bool.false_eq_true, if_false]
 by_cases hneg : x < 0
 ·rw [if_pos hneg, decide_eq_false (by omega)]; cases M.getD (x.natAbs - 1) false <;> rfl
 ·rw [if_neg hneg, decide_eq_true (by omega)]; cases M.getD (x.natAbs - 1) false <;> rfl
theorem mem_litsOf {n : Nat} (hn : n ≤ 65536) {M : List Bool} {x : Int} : x ∈ litsOf n M ↔ Vd n x ∧ soB x M = true := by
 unfold litsOf
 rw [List.mem_map]
 constructor
 ·rintro ⟨i, hi, rfl⟩
  have hi := List.mem_range.1 hi
  cases hM : M.getD i false
  ·have hv : Vd n (-((i : Int) + 1)) := by unfold Vd; omega
   simp only [Bool.false_eq_true, if_false]
   refine ⟨hv, ?_⟩
   rw [soB_at hn hv, show (-((i : Int) + 1)).natAbs - 1 = i by omega, hM, decide_eq_false (by omega)]; rfl
  ·have hv : Vd n ((i : Int) + 1) := by unfold Vd; omega
   simp only [if_true]
   refine ⟨hv, ?_⟩
   rw [soB_at hn hv, show ((i : Int) + 1).natAbs - 1 = i by omega, hM, decide_eq_true (by omega)]; rfl
 ·rintro ⟨hv, hs⟩
  rw [soB_at hn hv] at hs
  unfold Vd at hv
  refine ⟨x.natAbs - 1, List.mem_range.2 (by omega), ?_⟩
  by_cases hp : 0 < x
  ·rw [decide_eq_true hp] at hs
   have hM : M.getD (x.natAbs - 1) false = true := by cases h : M.getD (x.natAbs - 1) false; (rw [h] at hs; cases hs); rfl
   rw [hM, if_pos rfl]; omega
  ·rw [decide_eq_false hp] at hs
   have hM : M.getD (x.natAbs - 1) false = false := by cases h : M.getD (x.natAbs - 1) false; rfl; (rw [h] at hs; cases hs)
   rw [hM, if_neg (by decide)]; omega
theorem tells {n0 n1 : Nat} {row out : List Int} {CL : List (List Int)} (h : SemC n0 n1 row out CL) (hn : n1 ≤ 65536) {M : List Bool} (hM : ∀ f ∈ CL, ∃ z ∈ f, soB z M = true) {s : Nat → Bool} (hrow : ∀ z ∈ row, Vd n1 z ∧ soB z M = T s z) :
  ∀ i, i < out.length → soB (out.getD i 0) M = decide (i < cnt s row) := by
 have hcons : ∀ x ∈ litsOf n1 M, -x ∉ litsOf n1 M := fun x hx hx2 => by
  obtain ⟨v1, s1⟩ := (mem_litsOf hn).1 hx
  obtain ⟨v2, s2⟩ := (mem_litsOf hn).1 hx2
  have := Sv.so_opp v1.1 (Nat.le_trans v1.2 hn) s2
  rw [s1] at this; cases this
 obtain ⟨-, h2⟩ := h.det s (litsOf n1 M) hcons (fun z hz => by
  obtain ⟨v, e⟩ := hrow z hz
  cases hT : T s z
  ·simp only [Bool.false_eq_true, if_false]
   have v2 : Vd n1 (-z) := by unfold Vd at *; omega
   refine (mem_litsOf hn).2 ⟨v2, ?_⟩
   have hl := Tr.lit_of v.1 (Nat.le_trans v.2 hn)
   rw [Rup.so_neg hl, e, hT]; rfl
  ·simp only [if_true]
   exact (mem_litsOf hn).2 ⟨v, by rw [e, hT]⟩) (fun f hf => by
  obtain ⟨z, hz, hs⟩ := hM f hf
  exact .inl ⟨z, hz, (mem_litsOf hn).2 ⟨(h.vd f hf).2 z hz, hs⟩⟩)
 intro i hi
 have := h2 i hi
 by_cases c : i < cnt s row
 ·rw [if_pos c] at this
  rw [decide_eq_true c]; exact ((mem_litsOf hn).1 this).2
 ·rw [if_neg c] at this
  obtain ⟨v, hs⟩ := (mem_litsOf hn).1 this
  have hv : Vd n1 (out.getD i 0) := by unfold Vd at *; omega
  rw [decide_eq_false c]
  exact Sv.so_opp hv.1 (Nat.le_trans hv.2 hn) hs
theorem kept_self {n : Nat} (hn : n ≤ 65536) : ∀ (O : List (List Int)), (∀ f ∈ O, AbsStrict f ∧ ∀ z ∈ f, Vd n z) → Sv.keptAll n O = O
 | [], _ => rfl
 | f :: O, h => by
  obtain ⟨h1, h2⟩ := h f (by simp)
  have ih := kept_self hn O fun g hg => h g (by simp [hg])
  unfold Sv.keptAll at ih ⊢
  rw [List.flatMap_cons, ih, Sv.kept1_self (fun x hx => by have := h2 x hx; unfold Vd at this; omega) h1 (fun x hx => h2 x hx)]
  rfl
end Tot
end Go.Proofs.YtjedgdamommgeaaGreat

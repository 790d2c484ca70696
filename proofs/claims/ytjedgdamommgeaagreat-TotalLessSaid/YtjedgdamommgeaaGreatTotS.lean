/- What the statements about counts ask, in plain Lean. -/
import Derived.Test.YtjedgdamommgeaaGreatTotQ
set_option linter.unusedVariables false
namespace Go.Proofs.YtjedgdamommgeaaGreat
open Go.RowKit
open Cnf (soB)
namespace Tot
open Cnf Up
theorem nums_succ (k : Nat) : nums 0 (k + 1) = nums 0 k ++ [(k : Int) + 1] := by
 unfold nums
 rw [List.range_succ, List.map_append]
 simp
theorem litsOf_succ (k : Nat) (M : List Bool) : litsOf (k + 1) M = litsOf k M ++ [if M.getD k false then (k : Int) + 1 else -((k : Int) + 1)] := by
 unfold litsOf
 rw [List.range_succ, List.map_append]
 rfl
theorem litsOf_len (k : Nat) (M : List Bool) : (litsOf k M).length = k := by simp [litsOf]
theorem nums_vd {n : Nat} : ∀ z ∈ nums 0 n, Vd n z := by
 intro z hz
 unfold nums at hz
 obtain ⟨i, hi, rfl⟩ := List.mem_map.1 hz
 have := List.mem_range.1 hi
 unfold Vd
 omega
def sOf (so : List Bool) : Nat → Bool := fun a => so.getD (a - 1) false
theorem soB_T {n : Nat} (hn : n ≤ 65536) {x : Int} (hx : Vd n x) (M : List Bool) : soB x M = T (sOf M) x := by rw [soB_at hn hx]; rfl
theorem mem_litsOf_T {n : Nat} (hn : n ≤ 65536) {M : List Bool} {x : Int} : x ∈ litsOf n M ↔ Vd n x ∧ T (sOf M) x = true := by
 rw [mem_litsOf hn]
 constructor
 ·rintro ⟨h1, h2⟩; exact ⟨h1, by rw [← soB_T hn h1]; exact h2⟩
 ·rintro ⟨h1, h2⟩; exact ⟨h1, by rw [soB_T hn h1]; exact h2⟩
theorem litsOf_T {n : Nat} (hn : n ≤ 65536) {M : List Bool} {z : Int} (hz : Vd n z) : if T (sOf M) z then z ∈ litsOf n M else -z ∈ litsOf n M := by
 cases h : T (sOf M) z
 ·simp only [Bool.false_eq_true, if_false]
  refine (mem_litsOf_T hn).2 ⟨by unfold Vd at *; omega, ?_⟩
  rw [T_neg _ hz.1, h]; rfl
 ·simp only [if_true]
  exact (mem_litsOf_T hn).2 ⟨hz, h⟩
theorem litsOf_cons {n : Nat} (hn : n ≤ 65536) (M : List Bool) : ∀ x ∈ litsOf n M, -x ∉ litsOf n M := fun x hx hx2 => by
 obtain ⟨v1, s1⟩ := (mem_litsOf hn).1 hx
 obtain ⟨v2, s2⟩ := (mem_litsOf hn).1 hx2
 have := Sv.so_opp v1.1 (Nat.le_trans v1.2 hn) s2
 rw [s1] at this; cases this
structure Told (n N : Nat) (so : List Bool) (base : List Int) (O : List (List Int)) : Prop where
 le : n ≤ N
 vd : ∀ f ∈ O, AbsStrict f ∧ ∀ z ∈ f, Vd N z
 det : ∀ L : List Int, (∀ x ∈ L, -x ∉ L) → (∀ f ∈ O, Fine L L f) → (∀ a ∈ base, a ∈ L) → (∀ a ∈ litsOf n so, a ∈ L) ∧ ∀ i : Nat, 1 ≤ i → i ≤ N → (i : Int) ∈ L ∨ -(i : Int) ∈ L
 model : ∃ s : Nat → Bool, (∀ a, 1 ≤ a → a ≤ n → s a = sOf so a) ∧ ∀ f ∈ O, ∃ z ∈ f, T s z = true
section
variable {n N : Nat} {so : List Bool} {base : List Int} {O : List (List Int)}
theorem told_all (hn : n ≤ 65536) {L : List Int} (h : ∀ a ∈ litsOf n so, a ∈ L) : ∀ i : Nat, 1 ≤ i → i ≤ n → (i : Int) ∈ L ∨ -(i : Int) ∈ L := by
 intro i h1 h2
 have := litsOf_T hn (M := so) (z := (i : Int)) (by unfold Vd; omega)
 split at this
 ·exact .inl (h _ this)
 ·exact .inr (h _ this)
theorem Told.start (hn : n ≤ 65536) (so : List Bool) : Told n n so (litsOf n so) [] :=
 ⟨Nat.le_refl _, fun f hf => (by cases hf), fun L _ _ hb => ⟨hb, told_all hn hb⟩, ⟨sOf so, fun _ _ _ => rfl, fun f hf => (by cases hf)⟩⟩
theorem Told.units (hn : n ≤ 65536) (so : List Bool) : Told n n so [] ((litsOf n so).map fun l => [l]) := by
 refine ⟨Nat.le_refl _, fun f hf => ?_, fun L hc hF _ => ?_, ⟨sOf so, fun _ _ _ => rfl, fun f hf => ?_⟩⟩
 ·obtain ⟨l, hl, rfl⟩ := List.mem_map.1 hf
  exact ⟨List.pairwise_singleton _ _, fun z hz => by rw [List.mem_singleton.1 hz]; exact ((mem_litsOf hn).1 hl).1⟩
 ·have h1 : ∀ a ∈ litsOf n so, a ∈ L := fun a ha => by
   rcases hF [a] (List.mem_map.2 ⟨a, ha, rfl⟩) with ⟨y, hy, hyL⟩ | ⟨y, hy, u, hu, hne, _⟩
   ·rw [← List.mem_singleton.1 hy]; exact hyL
   ·exact absurd ((List.mem_singleton.1 hy).trans (List.mem_singleton.1 hu).symm) hne
  exact ⟨h1, told_all hn h1⟩
 ·obtain ⟨l, hl, rfl⟩ := List.mem_map.1 hf
  exact ⟨l, by simp, ((mem_litsOf_T hn).1 hl).2⟩
theorem cnt_sOf {s : Nat → Bool} (hs : ∀ a, 1 ≤ a → a ≤ n → s a = sOf so a) {row : List Int} (hr : ∀ z ∈ row, Vd n z) : cnt s row = cnt (sOf so) row :=
 cnt_congr fun z hz => hs _ (by have := hr z hz; unfold Vd at this; omega) (hr z hz).2
theorem Told.count {N1 : Nat} {row out : List Int} {CL : List (List Int)} (h : Told n N so base O) (hs : SemC N N1 row out CL) (hm : N ≤ N1) (hn : N1 ≤ 65536) (hr : ∀ z ∈ row, Vd n z) : Told n N1 so base (O ++ CL) := by
 have hle := h.le
 refine ⟨by omega, fun f hf => ?_, fun L hc hF hb => ?_, ?_⟩
 ·rcases List.mem_append.1 hf with hf | hf
  ·obtain ⟨h1, h2⟩ := h.vd f hf
   exact ⟨h1, fun z hz => by have := h2 z hz; unfold Vd at *; omega⟩
  ·exact hs.vd f hf
 ·obtain ⟨h1, h2⟩ := h.det L hc (fun f hf => hF f (List.mem_append_left _ hf)) hb
  obtain ⟨h3, _⟩ := hs.det (sOf so) L hc (fun z hz => by
   have := litsOf_T (n := n) (by omega) (M := so) (hr z hz)
   split at this
   ·rename_i c; rw [if_pos c]; exact h1 _ this
   ·rename_i c; rw [if_neg c]; exact h1 _ this) (fun f hf => hF f (List.mem_append_right _ hf))
  refine ⟨h1, fun i i1 i2 => ?_⟩
  by_cases c : i ≤ N
  ·exact h2 i i1 c
  ·exact h3 i (by omega) i2
 ·obtain ⟨s, s1, s2⟩ := h.model
  obtain ⟨s', t1, t2, _⟩ := hs.model s
  refine ⟨s', fun a a1 a2 => by rw [t1 a (by omega)]; exact s1 a a1 a2, fun f hf => ?_⟩
  rcases List.mem_append.1 hf with hf | hf
  ·obtain ⟨z, hz, hT⟩ := s2 f hf
   exact ⟨z, hz, by rw [← hT]; exact T_congr (t1 _ ((h.vd f hf).2 z hz).2)⟩
  ·exact t2 f hf
theorem Told.set (h : Told n N so base O) (hN : N ≤ 65536) {M : List Bool} (hM : Rup.Sat O M) (hb : ∀ a ∈ base, Vd N a ∧ soB a M = true) : ∀ z, Vd n z → soB z M = T (sOf so) z := by
 have hle := h.le
 obtain ⟨h1, _⟩ := h.det (litsOf N M) (litsOf_cons hN M) (fun f hf => by
  obtain ⟨z, hz, hs⟩ := hM f hf
  exact .inl ⟨z, hz, (mem_litsOf hN).2 ⟨(h.vd f hf).2 z hz, hs⟩⟩) (fun a ha => (mem_litsOf hN).2 (hb a ha))
 intro z hz
 have := litsOf_T (n := n) (by omega) (M := so) hz
 split at this
 ·rename_i c
  rw [c]
  exact ((mem_litsOf hN).1 (h1 _ this)).2
 ·rename_i c
  have hc : T (sOf so) z = false := by simpa using c
  rw [hc]
  exact Sv.so_opp hz.1 (by have := hz.2; omega) ((mem_litsOf hN).1 (h1 _ this)).2
theorem Told.tells {N1 : Nat} {n0 : Nat} {row out : List Int} {CL : List (List Int)} (h : Told n N so base O) (hs : SemC n0 N1 row out CL) (hsub : ∀ f ∈ CL, f ∈ O) (hm : N1 ≤ N) (hnN : n ≤ N1) (hN : N ≤ 65536) (hr : ∀ z ∈ row, Vd n z) {M : List Bool} (hM : Rup.Sat O M) (hb : ∀ a ∈ base, Vd N a ∧ soB a M = true) :
  ∀ i, i < out.length → soB (out.getD i 0) M = decide (i < cnt (sOf so) row) :=
 Tot.tells hs (by omega) (fun f hf => hM f (hsub f hf)) (fun z hz => ⟨by have := hr z hz; unfold Vd at *; omega, h.set hN hM hb z (hr z hz)⟩)
theorem Told.toDet (h : Told n N so base O) : Sv.Det N O base := fun L hc hF hb => (h.det L hc hF hb).2
theorem Told.model2 (h : Told n N so base O) (hn : n ≤ 65536) (hb : ∀ a ∈ base, a ∈ litsOf n so) : ∃ s : Nat → Bool, (∀ f ∈ O, ∃ z ∈ f, T s z = true) ∧ ∀ a ∈ base, Vd N a ∧ T s a = true := by
 obtain ⟨s, s1, s2⟩ := h.model
 have hle := h.le
 refine ⟨s, s2, fun a ha => ?_⟩
 obtain ⟨v, hT⟩ := (mem_litsOf_T hn).1 (hb a ha)
 refine ⟨by unfold Vd at *; omega, ?_⟩
 rw [← hT]
 exact T_congr (s1 _ (by unfold Vd at v; omega) v.2)
end
theorem count_place {cap : Int} (hc : 1 ≤ cap) {row : List Int} {n0 : Nat} {B : Bld} (h1 : 1 ≤ row.length) (h20 : row.length ≤ 20) (hv : ∀ z ∈ row, Vd n0 z) (hl : n0 + row.length * row.length ≤ 5000) (hB : B.cls.length + 1000 * row.length ≤ 262144) {r : List Int × Nat × Bool × Bld} (hr : count cap 5000 row n0 false B = r) :
  Sem cap n0 row B r ∧ r.2.2.1 = false ∧ r.2.1 ≤ n0 + row.length * row.length ∧ (r.1.length : Int) = min (row.length : Int) cap := by
 obtain ⟨_, _, hb⟩ := nd_bound cap hc row.length
 have hs := count_sem hc (lim := 5000) (by omega) row.length row n0 false B rfl h1 h20 hv (by omega) hB
 obtain ⟨o, _, hf⟩ := count_fit hc row.length row n0 rfl
 obtain ⟨_, e2, e3⟩ := hf 5000 false B (by omega)
 rw [hr] at hs e2 e3
 refine ⟨hs, e3, by omega, ?_⟩
 have a1 := hs.short
 have a2 := hs.le
 have a3 := hs.capd
 omega
def turnedP (n t j : Nat) : List Int := (List.range j).map fun i => (((i + t) % n : Nat) : Int) + 1
theorem turnedP_succ (n t j : Nat) : turnedP n t (j + 1) = turnedP n t j ++ [(((j + t) % n : Nat) : Int) + 1] := by
 unfold turnedP
 rw [List.range_succ, List.map_append]
 rfl
theorem turnedP_eq {n t : Nat} (hn : 0 < n) : turnedP n t n = (nums 0 n).drop (t % n) ++ (nums 0 n).take (t % n) := by
 have hk := Nat.mod_lt t hn
 have e0 : ∀ i, (i + t) % n = (i + t % n) % n := fun i => (Nat.add_mod_mod i t n).symm
 generalize t % n = k at *
 apply List.ext_getElem
 ·simp [turnedP, nums]; omega
 ·intro i h1 h2
  simp only [turnedP, List.length_map, List.length_range] at h1
  simp only [turnedP, nums, List.getElem_map, List.getElem_range, List.getElem_append, List.length_drop, List.length_map, List.length_range, List.getElem_drop, List.getElem_take, e0]
  by_cases c : i + k < n
  ·rw [Nat.mod_eq_of_lt c, dif_pos (by omega)]
   omega
  ·rw [Nat.mod_eq_sub_mod (by omega), Nat.mod_eq_of_lt (by omega), dif_neg (by omega)]
   omega
theorem turnedP_cnt {n t : Nat} (hn : 0 < n) (s : Nat → Bool) : cnt s (turnedP n t n) = cnt s (nums 0 n) := by
 rw [turnedP_eq hn, cnt_split s (nums 0 n) (t % n)]
 unfold cnt
 rw [List.filter_append, List.length_append, Nat.add_comm]
theorem turnedP_vd {n t : Nat} (hn : 0 < n) : ∀ z ∈ turnedP n t n, Vd n z := by
 intro z hz
 unfold turnedP at hz
 obtain ⟨i, hi, rfl⟩ := List.mem_map.1 hz
 have := Nat.mod_lt (i + t) hn
 unfold Vd
 omega
theorem turnedP_len (n t j : Nat) : (turnedP n t j).length = j := by simp [turnedP]
structure TurnedP (n : Nat) (so : List Bool) (cap : Int) (p q : List Int) (N : Nat) (O : List (List Int)) : Prop where
 lp : (p.length : Int) = min (n : Int) cap
 lq : (q.length : Int) = min (n : Int) cap
 N5 : N ≤ 300
 vd : ∀ f ∈ O, AbsStrict f ∧ ∀ z ∈ f, Vd N z
 len : O.length ≤ 100000
 det : Sv.Det N O (litsOf n so)
 model : ∃ s : Nat → Bool, (∀ f ∈ O, ∃ z ∈ f, T s z = true) ∧ ∀ a ∈ litsOf n so, Vd N a ∧ T s a = true
 same : ∀ M, Rup.Sat O M → (∀ a ∈ litsOf n so, soB a M = true) → ∀ i, i < p.length → soB (p.getD i 0) M = soB (q.getD i 0) M
 pI : (∀ z ∈ p, Vd N z) ∧ ∀ z ∈ q, Vd N z
theorem turned_law {n : Nat} (h1 : 1 ≤ n) (h10 : n ≤ 10) (so : List Bool) {cap : Int} (hc : 1 ≤ cap) (t : Nat) {r r2 : List Int × Nat × Bool × Bld} (hr : count cap 5000 (nums 0 n) n false ⟨[], false, false⟩ = r) (hr2 : count cap 5000 (turnedP n t n) r.2.1 false r.2.2.2 = r2) :
  r.2.2.1 = false ∧ r2.2.2.1 = false ∧ TurnedP n so cap r.1 r2.1 r2.2.1 r2.2.2.2.cls := by
 have hnn : n * n ≤ 100 := Nat.mul_le_mul h10 h10
 have hl1 : (nums 0 n).length = n := nums_len 0 n
 have hl2 := turnedP_len n t n
 obtain ⟨S1, f1, b1, e1⟩ := count_place hc (B := ⟨[], false, false⟩) (by omega) (by omega) nums_vd (by rw [hl1]; omega) (by simp only [List.length_nil]; omega) hr
 rw [hl1] at b1 e1
 obtain ⟨CL1, c1, d1, C1⟩ := S1.cl
 rw [hl1] at d1
 have c1 : r.2.2.2.cls = CL1 := by rw [c1]; rfl
 have m1 := S1.mono
 obtain ⟨S2, f2, b2, e2⟩ := count_place hc (row := turnedP n t n) (n0 := r.2.1) (B := r.2.2.2) (by omega) (by omega) (fun z hz => by have := turnedP_vd (t := t) (by omega) z hz; unfold Vd at *; omega) (by rw [hl2]; omega) (by rw [c1]; omega) hr2
 rw [hl2] at b2 e2
 obtain ⟨CL2, c2, d2, C2⟩ := S2.cl
 rw [hl2] at d2
 rw [c1] at c2
 have m2 := S2.mono
 have t1 := (Told.start (n := n) (by omega) so).count C1 m1 (by omega) nums_vd
 have t2 := t1.count C2 m2 (by omega) (turnedP_vd (by omega))
 rw [List.nil_append] at t2
 rw [← c2] at t2
 refine ⟨f1, f2, e1, e2, by omega, t2.vd, by rw [c2, List.length_append]; omega, t2.toDet, t2.model2 (by omega) (fun a ha => ha), fun M hM hb i hi => ?_, fun z hz => ?_, S2.lits⟩
 ·have hb2 : ∀ a ∈ litsOf n so, Vd r2.2.1 a ∧ soB a M = true := fun a ha => ⟨by have := ((mem_litsOf (by omega)).1 ha).1; unfold Vd at *; omega, hb a ha⟩
  rw [t2.tells C1 (fun f hf => by rw [c2]; exact List.mem_append_left _ hf) m2 m1 (by omega) nums_vd hM hb2 i hi,
   t2.tells C2 (fun f hf => by rw [c2]; exact List.mem_append_right _ hf) (Nat.le_refl _) (by omega) (by omega) (turnedP_vd (by omega)) hM hb2 i (by omega), turnedP_cnt (by omega)]
 ·have := S1.lits z hz
  unfold Vd at *; omega
end Tot
end Go.Proofs.YtjedgdamommgeaaGreat

/- total.Count: its contract; when a table's room suffices, in plain Lean. -/
import Derived.Test.YtjedgdamommgeaaGreatTot6
set_option linter.unusedVariables false
namespace Go.Proofs.YtjedgdamommgeaaGreat
open Go.RowKit
namespace Tot
def nd (cap : Int) (L : Nat) : Nat × Nat :=
 if h : L < 2 then (L, 0) else
 ((min (((nd cap (L / 2)).1 : Int) + ((nd cap (L - L / 2)).1 : Int)) cap).toNat, (nd cap (L / 2)).2 + (nd cap (L - L / 2)).2 + (min (((nd cap (L / 2)).1 : Int) + ((nd cap (L - L / 2)).1 : Int)) cap).toNat)
termination_by L
theorem nd_short (cap : Int) {L : Nat} (h : L < 2) : nd cap L = (L, 0) := by rw [nd, dif_pos h]
theorem nd_long {cap : Int} {L : Nat} (h : ¬ L < 2) {a b : Nat × Nat} (ha : nd cap (L / 2) = a) (hb : nd cap (L - L / 2) = b) : nd cap L = ((min ((a.1 : Int) + (b.1 : Int)) cap).toNat, a.2 + b.2 + (min ((a.1 : Int) + (b.1 : Int)) cap).toNat) := by
 subst ha hb
 rw [nd, dif_neg h]
theorem nd_bound (cap : Int) (hc : 1 ≤ cap) : ∀ L : Nat, (nd cap L).1 ≤ L ∧ (1 ≤ L → 1 ≤ (nd cap L).1) ∧ (nd cap L).2 ≤ L * L := by
 intro L
 induction L using Nat.strongRecOn with
 | ind L ih =>
  by_cases h : L < 2
  ·rw [nd_short cap h]; exact ⟨Nat.le_refl _, fun h => h, Nat.zero_le _⟩
  ·obtain ⟨a, ha⟩ : ∃ a, nd cap (L / 2) = a := ⟨_, rfl⟩
   obtain ⟨b, hb⟩ : ∃ b, nd cap (L - L / 2) = b := ⟨_, rfl⟩
   have i1 := ih (L / 2) (by omega)
   have i2 := ih (L - L / 2) (by omega)
   rw [ha] at i1
   rw [hb] at i2
   rw [nd_long h ha hb]
   obtain ⟨x, hx⟩ : ∃ x, L / 2 = x := ⟨_, rfl⟩
   obtain ⟨y, hy⟩ : ∃ y, L - L / 2 = y := ⟨_, rfl⟩
   rw [hx] at i1
   rw [hy] at i2
   have hL : L = x + y := by omega
   have x1 : 1 ≤ x := by omega
   have y1 : 1 ≤ y := by omega
   have p1 : x ≤ x * y := Nat.le_mul_of_pos_right x y1
   have p2 : y ≤ x * y := Nat.le_mul_of_pos_left y x1
   have p3 : L * L = x * x + x * y + (x * y + y * y) := by
    rw [hL, Nat.add_mul, Nat.mul_add, Nat.mul_add, Nat.mul_comm y x]
   have q1 := i1.2.1 x1
   have q2 := i2.2.1 y1
   refine ⟨?_, fun _ => ?_, ?_⟩
   ·simp only; omega
   ·simp only; omega
   ·simp only; omega
theorem count_fit {cap : Int} (hc : 1 ≤ cap) : ∀ (L : Nat) (row : List Int) (n0 : Nat), row.length = L → ∃ out : List Int, out.length = (nd cap L).1 ∧
  ∀ (lim : Nat) (fl : Bool) (B : Bld), n0 + (nd cap L).2 ≤ lim → (count cap lim row n0 fl B).1 = out ∧ (count cap lim row n0 fl B).2.1 = n0 + (nd cap L).2 ∧ (count cap lim row n0 fl B).2.2.1 = fl := by
 intro L
 induction L using Nat.strongRecOn with
 | ind L ih =>
  intro row n0 hL
  by_cases h : row.length < 2
  ·refine ⟨row, by rw [nd_short cap (by omega)]; exact hL, fun lim fl B hr => ?_⟩
   rw [count_short cap lim n0 fl B h, nd_short cap (by omega)]; exact ⟨rfl, rfl, rfl⟩
  ·obtain ⟨a, ha⟩ : ∃ a, nd cap (L / 2) = a := ⟨_, rfl⟩
   obtain ⟨b, hb⟩ : ∃ b, nd cap (L - L / 2) = b := ⟨_, rfl⟩
   have hh : row.length / 2 = L / 2 := by rw [hL]
   obtain ⟨o1, l1, h1⟩ := ih (L / 2) (by omega) (row.take (L / 2)) n0 (by simp; omega)
   obtain ⟨o2, l2, h2⟩ := ih (L - L / 2) (by omega) (row.drop (L / 2)) (n0 + a.2) (by simp; omega)
   have nb1 := (nd_bound cap hc (L / 2)).2.1 (by omega)
   have nb2 := (nd_bound cap hc (L - L / 2)).2.1 (by omega)
   rw [ha] at l1 h1 nb1
   rw [hb] at l2 h2 nb2
   rw [nd_long (by omega) ha hb]
   obtain ⟨m, hm⟩ : ∃ m, (min ((a.1 : Int) + (b.1 : Int)) cap).toNat = m := ⟨_, rfl⟩
   rw [hm]
   refine ⟨nums (n0 + a.2 + b.2) m, nums_len _ _, fun lim fl B hr => ?_⟩
   simp only at hr
   obtain ⟨r1, hr1⟩ : ∃ r, count cap lim (row.take (row.length / 2)) n0 fl B = r := ⟨_, rfl⟩
   obtain ⟨r2, hr2⟩ : ∃ r, count cap lim (row.drop (row.length / 2)) r1.2.1 r1.2.2.1 r1.2.2.2 = r := ⟨_, rfl⟩
   obtain ⟨e1, e2, e3⟩ := h1 lim fl B (by omega)
   rw [hh] at hr1 hr2
   rw [hr1] at e1 e2 e3
   obtain ⟨f1, f2, f3⟩ := h2 lim r1.2.2.1 r1.2.2.2 (by omega)
   rw [e2] at hr2
   rw [hr2] at f1 f2 f3
   have hlen : (min ((r1.1.length : Int) + (r2.1.length : Int)) cap).toNat = m := by rw [e1, f1, l1, l2]; exact hm
   rw [count_long (by omega) (by rw [hh]; exact hr1) (by rw [hh, e2]; exact hr2) hlen]
   rw [if_neg (by rw [e1, f1, l1, l2]; omega), f2, if_pos (by omega)]
   exact ⟨rfl, by simp only; omega, by rw [f3, e3]⟩
end Tot
section
variable {w : World}
theorem Count_zero {p q : Value} {v : Value} {row : List Int} (hI : Ints w v row) (hp : p = .pointer none ∨ ∃ b, p = .pointer (some ⟨b, 0, none⟩)) (hq : q = .pointer none ∨ ∃ b, q = .pointer (some ⟨b, 0, none⟩)) (cap : Int) (h : p = .pointer none ∨ q = .pointer none ∨ cap < 1 ∨ row.contains 0 = true) :
  Calls Tryz.prog 23 #[p, q, v, .int .i64 cap] w fun e w' => e = .returned (.slice none 0 0) ∧ w' = w := by
 have hC := Contains_any hI 0 _ rfl
 obtain ⟨ao, cc, rfl, _, _⟩ := hI.shape
 rcases hp with rfl | ⟨bt, rfl⟩
 ·go_enter Tryz.func23, Tryz.ntmps23
  go_wp2_with fail
  go_ret
  exact ⟨rfl, rfl⟩
 ·rcases hq with rfl | ⟨bb, rfl⟩
  ·go_enter Tryz.func23, Tryz.ntmps23
   go_wp2_with fail
   go_ret
   exact ⟨rfl, rfl⟩
  ·by_cases hc : cap < 1
   ·go_enter Tryz.func23, Tryz.ntmps23
    go_wp2_with fail
    go_ret
    exact ⟨rfl, rfl⟩
   ·have h0 : row.contains 0 = true := by
     rcases h with h | h | h | h
     ·simp at h
     ·simp at h
     ·exact absurd h hc
     ·exact h
    rw [h0] at hC
    have HC := Lib.hid hC
    have d1 : decide (cap < 1) = false := decide_eq_false hc
    clear hC h h0
    go_enter Tryz.func23, Tryz.ntmps23
    go_wp2_with fail
    refine HC.out.mono ?_
    rintro e w2 ⟨rfl, rfl⟩
    go_wp2_with fail
    go_ret
    exact ⟨rfl, rfl⟩
end
end Go.Proofs.YtjedgdamommgeaaGreat

/- total.Count: its contract; when a table's room suffices, in plain Lean. -/
import Derived.Test.YtjbfgafkjejdjaaTot6
namespace Go.Proofs.Ytjbfgafkjejdjaa
open Go.RowKit

namespace Tot
/-- of a row's length: the length of its count, how many helps it needs -/
def nd (cap : Int) (L : Nat) : Nat × Nat :=
  if h : L < 2 then (L, 0) else
  ((min (((nd cap (L / 2)).1 : Int) + ((nd cap (L - L / 2)).1 : Int)) cap).toNat, (nd cap (L / 2)).2 + (nd cap (L - L / 2)).2 + (min (((nd cap (L / 2)).1 : Int) + ((nd cap (L - L / 2)).1 : Int)) cap).toNat)
termination_by L

theorem nd_short (cap : Int) {L : Nat} (h : L < 2) : nd cap L = (L, 0) := by rw [nd, dif_pos h]
theorem nd_long {cap : Int} {L : Nat} (h : ¬ L < 2) {a b : Nat × Nat} (ha : nd cap (L / 2) = a) (hb : nd cap (L - L / 2) = b) : nd cap L = ((min ((a.1 : Int) + (b.1 : Int)) cap).toNat, a.2 + b.2 + (min ((a.1 : Int) + (b.1 : Int)) cap).toNat) := by
  subst ha hb
  rw [nd, dif_neg h]

theorem nd_bound (cap : Int) (hc : 1 ≤ cap) : ∀ L : Nat, (nd cap L).1 ≤ L ∧ (1 ≤ L → 1 ≤ (nd cap L).1) ∧ (nd cap L).2 ≤ L * L := by
  intro L
  induction L using Nat.strongRecOn with
  | ind L ih =>
    by_cases h : L < 2
    · rw [nd_short cap h]; exact ⟨Nat.le_refl _, fun h => h, Nat.zero_le _⟩
    · obtain ⟨a, ha⟩ : ∃ a, nd cap (L / 2) = a := ⟨_, rfl⟩
      obtain ⟨b, hb⟩ : ∃ b, nd cap (L - L / 2) = b := ⟨_, rfl⟩
      have i1 := ih (L / 2) (by omega)
      have i2 := ih (L - L / 2) (by omega)
      rw [ha] at i1
      rw [hb] at i2
      rw [nd_long h ha hb]
      obtain ⟨x, hx⟩ : ∃ x, L / 2 = x := ⟨_, rfl⟩
      obtain ⟨y, hy⟩ : ∃ y, L - L / 2 = y := ⟨_, rfl⟩
      rw [hx] at i1
      rw [hy] at i2
      have hL : L = x + y := by omega
      have x1 : 1 ≤ x := by omega
      have y1 : 1 ≤ y := by omega
      have p1 : x ≤ x * y := Nat.le_mul_of_pos_right x y1
      have p2 : y ≤ x * y := Nat.le_mul_of_pos_left y x1
      have p3 : L * L = x * x + x * y + (x * y + y * y) := by
        rw [hL, Nat.add_mul, Nat.mul_add, Nat.mul_add, Nat.mul_comm y x]
      have q1 := i1.2.1 x1
      have q2 := i2.2.1 y1
      refine ⟨?_, fun _ => ?_, ?_⟩
      · simp only; omega
      · simp only; omega
      · simp only; omega

theorem nums_len' (n m : Nat) : (nums n m).length = m := nums_len n m

/-- the count's number never passes the limit; what is full stays so -/
theorem count_mono {cap : Int} {lim : Nat} : ∀ (L : Nat) (row : List Int) (n0 : Nat) (fl : Bool) (B : Bld), row.length = L → n0 ≤ lim →
    (count cap lim row n0 fl B).2.1 ≤ lim ∧ n0 ≤ (count cap lim row n0 fl B).2.1 ∧ (fl = true → (count cap lim row n0 fl B).2.2.1 = true) := by
  intro L
  induction L using Nat.strongRecOn with
  | ind L ih =>
    intro row n0 fl B hL hn
    by_cases h : row.length < 2
    · rw [count_short cap lim n0 fl B h]; exact ⟨hn, Nat.le_refl _, fun h => h⟩
    · obtain ⟨r1, hr1⟩ : ∃ r, count cap lim (row.take (row.length / 2)) n0 fl B = r := ⟨_, rfl⟩
      obtain ⟨r2, hr2⟩ : ∃ r, count cap lim (row.drop (row.length / 2)) r1.2.1 r1.2.2.1 r1.2.2.2 = r := ⟨_, rfl⟩
      obtain ⟨m, hm⟩ : ∃ m, (min ((r1.1.length : Int) + (r2.1.length : Int)) cap).toNat = m := ⟨_, rfl⟩
      have h1 := ih (row.take (row.length / 2)).length (by simp; omega) _ n0 fl B rfl hn
      rw [hr1] at h1
      have h2 := ih (row.drop (row.length / 2)).length (by simp; omega) _ r1.2.1 r1.2.2.1 r1.2.2.2 rfl h1.1
      rw [hr2] at h2
      rw [count_long h hr1 hr2 hm]
      split
      · exact ⟨h2.1, by simp only; omega, fun h => h2.2.2 (h1.2.2 h)⟩
      · split
        · exact ⟨by simp only; omega, by simp only; omega, fun h => h2.2.2 (h1.2.2 h)⟩
        · exact ⟨by simp only; omega, by simp only; omega, fun _ => rfl⟩

/-- where there is room -/
theorem count_fit {cap : Int} (hc : 1 ≤ cap) : ∀ (L : Nat) (row : List Int) (n0 : Nat), row.length = L → ∃ out : List Int, out.length = (nd cap L).1 ∧
    ∀ (lim : Nat) (fl : Bool) (B : Bld), n0 + (nd cap L).2 ≤ lim → (count cap lim row n0 fl B).1 = out ∧ (count cap lim row n0 fl B).2.1 = n0 + (nd cap L).2 ∧ (count cap lim row n0 fl B).2.2.1 = fl := by
  intro L
  induction L using Nat.strongRecOn with
  | ind L ih =>
    intro row n0 hL
    by_cases h : row.length < 2
    · refine ⟨row, by rw [nd_short cap (by omega)]; exact hL, fun lim fl B hr => ?_⟩
      rw [count_short cap lim n0 fl B h, nd_short cap (by omega)]; exact ⟨rfl, rfl, rfl⟩
    · obtain ⟨a, ha⟩ : ∃ a, nd cap (L / 2) = a := ⟨_, rfl⟩
      obtain ⟨b, hb⟩ : ∃ b, nd cap (L - L / 2) = b := ⟨_, rfl⟩
      have hh : row.length / 2 = L / 2 := by rw [hL]
      obtain ⟨o1, l1, h1⟩ := ih (L / 2) (by omega) (row.take (L / 2)) n0 (by simp; omega)
      obtain ⟨o2, l2, h2⟩ := ih (L - L / 2) (by omega) (row.drop (L / 2)) (n0 + a.2) (by simp; omega)
      have nb1 := (nd_bound cap hc (L / 2)).2.1 (by omega)
      have nb2 := (nd_bound cap hc (L - L / 2)).2.1 (by omega)
      rw [ha] at l1 h1 nb1
      rw [hb] at l2 h2 nb2
      rw [nd_long (by omega) ha hb]
      obtain ⟨m, hm⟩ : ∃ m, (min ((a.1 : Int) + (b.1 : Int)) cap).toNat = m := ⟨_, rfl⟩
      rw [hm]
      refine ⟨nums (n0 + a.2 + b.2) m, nums_len _ _, fun lim fl B hr => ?_⟩
      simp only at hr
      obtain ⟨r1, hr1⟩ : ∃ r, count cap lim (row.take (row.length / 2)) n0 fl B = r := ⟨_, rfl⟩
      obtain ⟨r2, hr2⟩ : ∃ r, count cap lim (row.drop (row.length / 2)) r1.2.1 r1.2.2.1 r1.2.2.2 = r := ⟨_, rfl⟩
      obtain ⟨e1, e2, e3⟩ := h1 lim fl B (by omega)
      rw [hh] at hr1 hr2
      rw [hr1] at e1 e2 e3
      obtain ⟨f1, f2, f3⟩ := h2 lim r1.2.2.1 r1.2.2.2 (by omega)
      rw [e2] at hr2
      rw [hr2] at f1 f2 f3
      have hlen : (min ((r1.1.length : Int) + (r2.1.length : Int)) cap).toNat = m := by rw [e1, f1, l1, l2]; exact hm
      rw [count_long (by omega) (by rw [hh]; exact hr1) (by rw [hh, e2]; exact hr2) hlen]
      rw [if_neg (by rw [e1, f1, l1, l2]; omega), f2, if_pos (by omega)]
      exact ⟨rfl, by simp only; omega, by rw [f3, e3]⟩

/-- where there is none -/
theorem count_full {cap : Int} (hc : 1 ≤ cap) {lim : Nat} : ∀ (L : Nat) (row : List Int) (n0 : Nat) (fl : Bool) (B : Bld), row.length = L → n0 ≤ lim → lim < n0 + (nd cap L).2 →
    (count cap lim row n0 fl B).1 = [] ∧ (count cap lim row n0 fl B).2.2.1 = true := by
  intro L
  induction L using Nat.strongRecOn with
  | ind L ih =>
    intro row n0 fl B hL hn hr
    by_cases h : row.length < 2
    · rw [nd_short cap (by omega)] at hr; simp at hr; omega
    · obtain ⟨a, ha⟩ : ∃ a, nd cap (L / 2) = a := ⟨_, rfl⟩
      obtain ⟨b, hb⟩ : ∃ b, nd cap (L - L / 2) = b := ⟨_, rfl⟩
      have hh : row.length / 2 = L / 2 := by rw [hL]
      rw [nd_long (by omega) ha hb] at hr
      simp only at hr
      obtain ⟨r1, hr1⟩ : ∃ r, count cap lim (row.take (L / 2)) n0 fl B = r := ⟨_, rfl⟩
      obtain ⟨r2, hr2⟩ : ∃ r, count cap lim (row.drop (L / 2)) r1.2.1 r1.2.2.1 r1.2.2.2 = r := ⟨_, rfl⟩
      have m1 := count_mono (cap := cap) (lim := lim) _ (row.take (L / 2)) n0 fl B rfl hn
      rw [hr1] at m1
      have m2 := count_mono (cap := cap) (lim := lim) _ (row.drop (L / 2)) r1.2.1 r1.2.2.1 r1.2.2.2 rfl m1.1
      rw [hr2] at m2
      rw [count_long (r1 := r1) (r2 := r2) (by omega) (by rw [hh]; exact hr1) (by rw [hh]; exact hr2) rfl]
      by_cases c1 : lim < n0 + a.2
      · have := ih (L / 2) (by omega) (row.take (L / 2)) n0 fl B (by simp; omega) hn (by rw [ha]; exact c1)
        rw [hr1] at this
        rw [if_pos (.inl (by rw [this.1]; rfl))]
        exact ⟨rfl, m2.2.2 this.2⟩
      · obtain ⟨o1, l1, h1⟩ := count_fit hc (L / 2) (row.take (L / 2)) n0 (by simp; omega)
        obtain ⟨e1, e2, e3⟩ := h1 lim fl B (by rw [ha]; omega)
        rw [hr1] at e1 e2 e3
        rw [ha] at e2 l1
        by_cases c2 : lim < n0 + a.2 + b.2
        · have := ih (L - L / 2) (by omega) (row.drop (L / 2)) r1.2.1 r1.2.2.1 r1.2.2.2 (by simp; omega) m1.1 (by rw [hb]; omega)
          rw [hr2] at this
          rw [if_pos (.inr (by rw [this.1]; rfl))]
          exact ⟨rfl, this.2⟩
        · obtain ⟨o2, l2, h2⟩ := count_fit hc (L - L / 2) (row.drop (L / 2)) r1.2.1 (by simp; omega)
          obtain ⟨f1, f2, f3⟩ := h2 lim r1.2.2.1 r1.2.2.2 (by rw [hb]; omega)
          rw [hr2] at f1 f2 f3
          rw [hb] at f2 l2
          have nb1 := (nd_bound cap hc (L / 2)).2.1 (by omega)
          have nb2 := (nd_bound cap hc (L - L / 2)).2.1 (by omega)
          rw [ha] at nb1
          rw [hb] at nb2
          rw [if_neg (by rw [e1, f1, l1, l2]; omega), e1, f1, l1, l2, if_neg (by omega)]
          exact ⟨rfl, rfl⟩
end Tot

/-- what Count leaves -/
def CountTo (w : World) (gt gb : Tag) (bt : Nat) (n lim : Nat) (fl : Bool) (v : Value) (out : List Int) (w' : World) : Prop :=
  ∃ gt' Vt hp, TabAt w' gt' bt Vt (Tot.hT n lim hp fl) ∧ hp ≤ n ∧ Agree w gt gt' ∧ Only (fun k => Mine gt k ∨ Mine gb k) w w' ∧ Ints w' v out ∧ NewI w v out

section
variable {w : World}

set_option maxHeartbeats 800000 in
theorem Count_tab {gt gb : Tag} {bt bb : Nat} {Vt : TabV} {Vb : BldV} {n0 lim hp : Nat} {fl : Bool} {B : Bld} (hT : TabAt w gt bt Vt (Tot.hT n0 lim hp fl)) (hhp : hp ≤ n0) (hB : BldAt w gb bb Vb B) (hd : ∀ k, Mine gt k → ¬ Mine gb k)
    {v : Value} {row : List Int} (hI : Ints w v row) (hL : row.length ≤ 1000) (hnt : NotMine gt v row) (hnb : NotMine gb v row) (hs : ∀ z ∈ row, z.natAbs ≤ 1000000) (cap : Int) (h1 : 1 ≤ cap) (h2 : cap ≤ 9223372036854775807) (h0 : row.contains 0 = false) :
    Calls Try.prog 16 #[.pointer (some ⟨bt, 0, none⟩), .pointer (some ⟨bb, 0, none⟩), v, .int .i64 cap] w fun e w' => ∃ v', e = .returned v' ∧ CountTo w gt gb bt (Tot.count cap lim row n0 fl B).2.1 lim (Tot.count cap lim row n0 fl B).2.2.1 v' (Tot.count cap lim row n0 fl B).1 w' := by
  refine Count_of hI cap h1 h2 h0 _ ?_
  have ho : Only (fun _ => False) w (w.alloc (.cells #[.pointer (some ⟨bt, 0, none⟩), .pointer (some ⟨bb, 0, none⟩), .int .i64 cap] 68)) := (Only.refl _ _).alloc _
  have hC : CtAt (w.alloc (.cells #[.pointer (some ⟨bt, 0, none⟩), .pointer (some ⟨bb, 0, none⟩), .int .i64 cap] 68)) gt gb w.heap.size bt bb cap (Tot.hT n0 lim hp fl) B :=
    ⟨heap_alloc_new w _, hT.fresh _ (Nat.le_refl _), hB.fresh _ (Nat.le_refl _), ⟨Vt, hT.only0 ho⟩, ⟨Vb, hB.only0 ho⟩, hd⟩
  refine (count_any (row := row) h1 h2 _ hC hhp (hI.only0 ho) rfl hL hnt hnb hs).mono ?_
  rintro e w' ⟨v', rfl, gt', gb', hp', k1, k2, k3, k4, k5, k6, k7, k8, k9⟩
  obtain ⟨V', hV'⟩ := k2.tab
  refine ⟨v', rfl, gt', V', hp', hV', k1, fun k hk => k3 k (by have := ho.size; omega), ?_, k6, fun h k hk => Nat.le_trans ho.size (k9 h k hk)⟩
  exact (ho.mono fun _ f => f.elim).same k5

theorem Count_zero {p q : Value} {v : Value} {row : List Int} (hI : Ints w v row) (hp : p = .pointer none ∨ ∃ b, p = .pointer (some ⟨b, 0, none⟩)) (hq : q = .pointer none ∨ ∃ b, q = .pointer (some ⟨b, 0, none⟩)) (cap : Int) (h : p = .pointer none ∨ q = .pointer none ∨ cap < 1 ∨ row.contains 0 = true) :
    Calls Try.prog 16 #[p, q, v, .int .i64 cap] w fun e w' => e = .returned (.slice none 0 0) ∧ w' = w := by
  have hC := Contains_any hI 0 _ rfl
  obtain ⟨ao, cc, rfl, _, _⟩ := hI.shape
  rcases hp with rfl | ⟨bt, rfl⟩
  · go_enter Try.func16, Try.ntmps16
    go_wp2_with fail
    go_ret
    exact ⟨rfl, rfl⟩
  · rcases hq with rfl | ⟨bb, rfl⟩
    · go_enter Try.func16, Try.ntmps16
      go_wp2_with fail
      go_ret
      exact ⟨rfl, rfl⟩
    · by_cases hc : cap < 1
      · go_enter Try.func16, Try.ntmps16
        go_wp2_with fail
        go_ret
        exact ⟨rfl, rfl⟩
      · have h0 : row.contains 0 = true := by
          rcases h with h | h | h | h
          · simp at h
          · simp at h
          · exact absurd h hc
          · exact h
        rw [h0] at hC
        have HC := Lib.hid hC
        have d1 : decide (cap < 1) = false := decide_eq_false hc
        clear hC h h0
        go_enter Try.func16, Try.ntmps16
        go_wp2_with fail
        refine HC.out.mono ?_
        rintro e w2 ⟨rfl, rfl⟩
        go_wp2_with fail
        go_ret
        exact ⟨rfl, rfl⟩
end
end Go.Proofs.Ytjbfgafkjejdjaa

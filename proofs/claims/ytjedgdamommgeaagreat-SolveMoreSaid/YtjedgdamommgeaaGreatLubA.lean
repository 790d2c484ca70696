/- Lub1 Lub2 PropD, in one text. -/
import Derived.Test.YtjedgdamommgeaaGreatShelf
import Derived.Test.YtjedgdamommgeaaGreatBase
import Derived.Test.YtjedgdamommgeaaGreatSvA
import Derived.Lib.MinMax
import Derived.Test.YtjedgdamommgeaaGreatRegs
import Derived.Test.YtjedgdamommgeaaGreatPrE
import Derived.Test.YtjedgdamommgeaaGreatPrO
import Derived.Test.YtjedgdamommgeaaGreatLrnP
set_option linter.unusedVariables false
namespace Go.Proofs.YtjedgdamommgeaaGreat
open Go.RowKit
section
variable {w : World}
theorem row_open {f m : Nat} : Sv.rowF (f + 1) m = if m + 1 = 2 ^ (Nat.log2 m + 1) then 2 ^ Nat.log2 m else Sv.rowF f (m - (2 ^ Nat.log2 m - 1)) := rfl
theorem bitLen_log {m : Nat} (h : 0 < m) (hb : m < 2 ^ 64) : Lib.bitLen m = Nat.log2 m + 1 := by
 have hlo : 2 ^ Nat.log2 m ≤ m := Nat.log2_self_le (by omega)
 have hhi : m < 2 ^ (Nat.log2 m + 1) := Nat.lt_log2_self
 rw [Lib.bitLen_shift _ m hlo hb]
 have hp : 0 < 2 ^ Nat.log2 m := Nat.pow_pos (by decide)
 have h1 : m / 2 ^ Nat.log2 m = 1 := by
  rw [Nat.pow_succ] at hhi
  refine Nat.div_eq_of_lt_le ?_ ?_
  ·omega
  ·omega
 rw [h1]
 have : Lib.bitLen 1 = 1 := by decide
 rw [this]
set_option maxRecDepth 100000 in
set_option maxHeartbeats 1600000 in
theorem luby_Row_any (n : Nat) (h1 : 1 ≤ n) (h2 : n ≤ 1000000000) (r : Int) (hr : (Sv.row n : Int) = r) : Calls Tryz.prog 79 #[.int .i64 (n : Int)] w fun e w' => e = .returned (.int .i64 r) ∧ w = w' := by
 have hst : Sv.rowF n n = Sv.row n := rfl
 obtain ⟨R, hR⟩ : ∃ R, Sv.row n = R := ⟨_, rfl⟩
 rw [hR] at hst hr
 subst hr
 have d1 : decide ((n : Int) < 1) = false := decide_eq_false (by omega)
 have HSt := Lib.hid hst
 clear hst hR
 go_enter Tryz.func79, Tryz.ntmps79
 go_wp2_with fail
 go_loopw [0] (fun v wr => w = wr ∧ ∃ m f : Nat, v = .int .i64 (m : Int) ∧ 1 ≤ m ∧ m ≤ n ∧ m ≤ f ∧ Sv.rowF f m = R) (fun v _ => (intOf v).toNat)
 case atStart => exact ⟨rfl, n, n, rfl, h1, Nat.le_refl _, Nat.le_refl _, HSt.out⟩
 case round =>
  clear HSt
  obtain ⟨rfl, m, f, rfl, hm1, hm2, hmf, hR⟩ := hrel
  obtain ⟨f, rfl⟩ : ∃ g, f = g + 1 := ⟨f - 1, by omega⟩
  rw [row_open] at hR
  obtain ⟨L, hL⟩ : ∃ L, Nat.log2 m = L := ⟨_, rfl⟩
  have hlo : 2 ^ L ≤ m := by rw [← hL]; exact Nat.log2_self_le (by omega)
  have hhi : m < 2 ^ (L + 1) := by rw [← hL]; exact Nat.lt_log2_self
  have hL30 : L < 30 := by
   rw [← hL]
   have h30 : m < 1073741824 := by omega
   exact (Nat.log2_lt (by omega)).2 (Nat.lt_of_lt_of_le h30 (by decide))
  have hlen := Tryz.bits_Len (m : Int) w (by omega) (by omega)
  rw [Int.toNat_natCast, bitLen_log (by omega) (Nat.lt_of_le_of_lt (show m ≤ 1000000000 by omega) (by decide)), hL] at hlen
  rw [hL] at hR
  have hp2 : 2 ^ (L + 1) = 2 * 2 ^ L := by rw [Nat.pow_succ]; omega
  obtain ⟨P, hP⟩ : ∃ P, 2 ^ L = P := ⟨_, rfl⟩
  have hPI : (2 : Int) ^ L = (P : Int) := by rw [← hP]; push_cast; rfl
  have hPI2 : (2 : Int) ^ (L + 1) = ((2 * P : Nat) : Int) := by rw [← hP, ← hp2]; push_cast; rfl
  rw [hp2, hP] at hR
  rw [hP] at hlo
  rw [hp2, hP] at hhi
  have s1 : IntKind.u64.wrap (2 ^ (L + 1)) = ((2 * P : Nat) : Int) := by rw [hPI2, IntWalk.u64_in _ (by omega)]
  have s2 : IntKind.i64.wrap (2 ^ L) = (P : Int) := by rw [hPI, IntWalk.i64_in _ (by omega)]
  have HLen := Lib.hid hlen
  have HR := Lib.hid hR
  clear hlen hR hPI hPI2 hp2 hP hL
  by_cases hm : m + 1 = 2 * P
  ·have hr := HR.out
   rw [if_pos hm] at hr
   have dm : ((m : Int) == 2 * (P : Int) - 1) = true := by rw [beq_iff_eq]; omega
   subst hr
   clear HR
   go_wp2_with fail
   refine HLen.out.mono ?_
   rintro e w1 ⟨rfl, rfl⟩
   go_wp2_with fail
   go_ret
   exact ⟨rfl, rfl⟩
  ·have hr := HR.out
   rw [if_neg hm] at hr
   have dm : ((m : Int) == 2 * (P : Int) - 1) = false := by rw [beq_eq_false_iff_ne]; omega
   have HR2 := Lib.hid hr
   clear HR hr
   go_wp2_with fail
   refine HLen.out.mono ?_
   rintro e w1 ⟨rfl, rfl⟩
   go_wp2_with fail
   go_roundw
   case rel => exact ⟨by first | rfl | trivial, m - (P - 1), f, by rw [show (m : Int) - ((P : Int) - 1) = ((m - (P - 1) : Nat) : Int) by omega], by omega, by omega, by omega, HR2.out⟩
   case measure => simp [intOf]; omega
theorem row_pos : ∀ (f m : Nat), 1 ≤ m → m ≤ f → 1 ≤ Sv.rowF f m ∧ Sv.rowF f m ≤ m
 | 0, m, h1, h2 => by omega
 | f + 1, m, h1, h2 => by
  rw [row_open]
  have hlo : 2 ^ Nat.log2 m ≤ m := Nat.log2_self_le (by omega)
  have hhi : m < 2 ^ (Nat.log2 m + 1) := Nat.lt_log2_self
  have hp : 0 < 2 ^ Nat.log2 m := Nat.pow_pos (by decide)
  rw [Nat.pow_succ] at hhi
  split
  ·omega
  ·rename_i hne
   rw [Nat.pow_succ] at hne
   have := row_pos f (m - (2 ^ Nat.log2 m - 1)) (by omega) (by omega)
   omega
set_option maxHeartbeats 1600000 in
theorem luby_times_any (b : Nat) (h1 : 1 ≤ b) (h2 : b ≤ 1000000000) (r : Int) (hr : 32 * (b : Int) = r) : Calls Tryz.prog 78 #[.int .i64 32, .int .i64 (b : Int)] w fun e w' => e = .returned (.int .i64 r) ∧ w = w' := by
 subst hr
 obtain ⟨q, hq⟩ : ∃ q, (9223372036854775807 : Int).tdiv (b : Int) = q := ⟨_, rfl⟩
 obtain ⟨q2, hq2⟩ : ∃ q, (9223372036854775807 : Int) / (b : Int) = q := ⟨_, rfl⟩
 have hqq : q = q2 := by rw [← hq, ← hq2, Int.tdiv_eq_ediv_of_nonneg (by decide)]
 have hlo : 1000 ≤ q2 := by
  rw [← hq2]
  exact (Int.le_ediv_iff_mul_le (by omega)).2 (by omega)
 have hup : q2 ≤ 9223372036854775807 := by rw [← hq2]; exact Int.ediv_le_self _ (by decide)
 have hw : wrap64 q2 = q2 := by rw [← IntWalk.i64_left]; exact IntWalk.i64_in _ (by omega)
 have d1 : decide (0 < b) = true := decide_eq_true (by omega)
 have d1' : decide ((0 : Int) < (b : Int)) = true := decide_eq_true (by omega)
 have d2 : decide (q < 32) = false := decide_eq_false (by omega)
 have d2' : decide (q2 < 32) = false := decide_eq_false (by omega)
 have e1 : IntKind.i64.wrap (32 * (b : Int)) = 32 * (b : Int) := by rw [IntWalk.i64_in _ (by omega)]
 have hb0 : (b : Int) ≠ 0 := by omega
 go_enter Tryz.func78, Tryz.ntmps78
 go_wp2_with fail
 go_ret
 exact ⟨rfl, rfl⟩
end
section
variable {w : World}
def PaceAt (w : World) (bp : Nat) (L t k : Int) : Prop := w.heap[bp]? = some (.cells #[cI 32, cI L, cI t, cI k] 105 (0, 0))
theorem PaceAt.set1 {bp : Nat} {L t k : Int} (h : PaceAt w bp L t k) (x : Int) : PaceAt (w.setCell ⟨bp, 1, none⟩ (.int .i64 x)) bp x t k := by unfold PaceAt; rw [set_block h]; rfl
theorem PaceAt.set2 {bp : Nat} {L t k : Int} (h : PaceAt w bp L t k) (x : Int) : PaceAt (w.setCell ⟨bp, 2, none⟩ (.int .i64 x)) bp L x k := by unfold PaceAt; rw [set_block h]; rfl
theorem PaceAt.set3 {bp : Nat} {L t k : Int} (h : PaceAt w bp L t k) (x : Int) : PaceAt (w.setCell ⟨bp, 3, none⟩ (.int .i64 x)) bp L t x := by unfold PaceAt; rw [set_block h]; rfl
theorem PaceAt.cells {bp : Nat} {L t k : Int} (h : PaceAt w bp L t k) : w.cell? ⟨bp, 0, none⟩ = some (.int .i64 32) ∧ w.cell? ⟨bp, 1, none⟩ = some (.int .i64 L) ∧ w.cell? ⟨bp, 2, none⟩ = some (.int .i64 t) ∧ w.cell? ⟨bp, 3, none⟩ = some (.int .i64 k) ∧ w.frozen? ⟨bp, 1, none⟩ = false ∧ w.frozen? ⟨bp, 2, none⟩ = false ∧ w.frozen? ⟨bp, 3, none⟩ = false :=
 ⟨by rw [cell_block h]; rfl, by rw [cell_block h]; rfl, by rw [cell_block h]; rfl, by rw [cell_block h]; rfl, free_block h _, free_block h _, free_block h _⟩
theorem PaceAt.only {bp : Nat} {L t k : Int} (h : PaceAt w bp L t k) {w' : World} {F : Nat → Prop} (ho : Only F w w') (hF : ¬ F bp) : PaceAt w' bp L t k := only_block h ho hF
def ConTo (w : World) (bp : Nat) (L t k : Int) (n : Nat) (e : Ending) (w' : World) : Prop :=
 ∃ L' t' k' anew fg, Sv.paceF L t k n = ((L', t', k'), anew, fg) ∧ e = .returned (.tuple #[.bool anew, .bool fg]) ∧ PaceAt w' bp L' t' k' ∧ Only (fun q => q = bp) w w'
set_option maxRecDepth 100000 in
set_option maxHeartbeats 1600000 in
theorem luby_Conflict_any {bp : Nat} {L t k : Int} (hb : PaceAt w bp L t k) (hL : 1 ≤ L ∧ L ≤ 1000000000000) (ht : 0 ≤ t ∧ t ≤ 100000000) (hk : 1 ≤ k ∧ k ≤ 9223372036854775807) (n : Nat) (hn : n ≤ 1099511627776) :
  Calls Tryz.prog 44 #[.pointer (some ⟨bp, 0, none⟩), .int .i64 (n : Int)] w (ConTo w bp L t k n) := by
 obtain ⟨L0, hL0⟩ : ∃ L0, L - 1 = L0 := ⟨_, rfl⟩
 have ew0 : IntKind.i64.wrap (L - 1) = L0 := by rw [hL0, IntWalk.i64_in _ (by omega)]
 obtain ⟨w1, hw1⟩ : ∃ w1, w.setCell ⟨bp, 1, none⟩ (.int .i64 L0) = w1 := ⟨_, rfl⟩
 have hb1 : PaceAt w1 bp L0 t k := by rw [← hw1]; exact hb.set1 L0
 have o1 : Only (fun q => q = bp) w w1 := by rw [← hw1]; exact (Only.refl (fun q => q = bp) w).setCell (p := ⟨bp, 1, none⟩) (.inl rfl) _
 obtain ⟨c0, c1, c2, c3, f1, f2, f3⟩ := hb.cells
 obtain ⟨a0, a1, a2, a3, g1, g2, g3⟩ := hb1.cells
 obtain ⟨L', hL'⟩ : ∃ L', (if L - 1 = 0 then 32 * (Sv.row (t + 2).toNat : Int) else L - 1) = L' := ⟨_, rfl⟩
 obtain ⟨t', ht'⟩ : ∃ t', (if L - 1 = 0 then t + 1 else t) = t' := ⟨_, rfl⟩
 obtain ⟨an, han⟩ : ∃ an, decide (L - 1 = 0) = an := ⟨_, rfl⟩
 have ean : (L0 == 0) = an := by
  rw [← han, ← hL0]
  by_cases h : L - 1 = 0
  ·rw [decide_eq_true h, h]; rfl
  ·rw [decide_eq_false h, beq_eq_false_iff_ne]; exact h
 have hpf : Sv.paceF L t k n = ((L', t', if k < (n : Int) then k + min (k / 2 + 1) (9223372036854775807 - k) else k), an, decide (k < (n : Int))) := by unfold Sv.paceF; rw [hL', ht', han]
 have HP := Lib.hid hpf
 have HL' := Lib.hid hL'
 have HT' := Lib.hid ht'
 have HAn := Lib.hid han
 have HB1 := Lib.hid hb1
 have HO1 := Lib.hid o1
 have HL0 := Lib.hid hL0
 obtain ⟨t1, ht1⟩ : ∃ t1, t + 1 = t1 := ⟨_, rfl⟩
 have ew1 : IntKind.i64.wrap (t + 1) = t1 := by rw [ht1, IntWalk.i64_in _ (by omega)]
 obtain ⟨w2, hw2⟩ : ∃ w2, w1.setCell ⟨bp, 2, none⟩ (.int .i64 t1) = w2 := ⟨_, rfl⟩
 have hb2 : PaceAt w2 bp L0 t1 k := by rw [← hw2]; exact hb1.set2 t1
 have o2 : Only (fun q => q = bp) w w2 := by rw [← hw2]; exact o1.setCell (p := ⟨bp, 2, none⟩) (.inl rfl) _
 obtain ⟨tt, htt⟩ : ∃ tt : Nat, (t + 2).toNat = tt := ⟨_, rfl⟩
 have ew2 : IntKind.i64.wrap (t1 + 1) = (tt : Int) := by rw [IntWalk.i64_in _ (by omega)]; omega
 obtain ⟨rr, hrr⟩ : ∃ rr, Sv.row tt = rr := ⟨_, rfl⟩
 have hrp := row_pos tt tt (by omega) (Nat.le_refl _)
 rw [show Sv.rowF tt tt = rr from hrr] at hrp
 have HRow := Lib.hid (fun W : World => luby_Row_any (w := W) tt (by omega) (by omega) (rr : Int) (by rw [hrr]))
 have HTim := Lib.hid (fun W : World => luby_times_any (w := W) rr hrp.1 (by omega) (32 * (rr : Int)) rfl)
 have HB2 := Lib.hid hb2
 have HO2 := Lib.hid o2
 have HRr := Lib.hid (And.intro htt hrr)
 have HT1 := Lib.hid ht1
 have b12 := hb2.cells
 have HC2 := Lib.hid b12
 clear hpf hL' ht' han hb1 o1 hb hL0 hb2 o2 htt hrr ht1 b12
 go_enter Tryz.func44, Tryz.ntmps44
 go_upto_if 22 with fail
 go_cut [] (fun wx => PaceAt wx bp L' t' k ∧ Only (fun q => q = bp) w wx)
 case first =>
  cases an with
  | false =>
   have hne : ¬ L - 1 = 0 := by have := HAn.out; simpa using this
   have h1 := HL'.out
   have h2 := HT'.out
   rw [if_neg hne] at h1 h2
   go_wp2_with fail
   go_meet
   refine ⟨?_, HO1.out⟩
   have hb := HB1.out
   rw [← h1, ← h2, HL0.out]
   exact hb
  | true =>
   have heq : L - 1 = 0 := by have := HAn.out; simpa using this
   have h1 := HL'.out
   have h2 := HT'.out
   rw [if_pos heq] at h1 h2
   have hfin : PaceAt (w2.setCell ⟨bp, 1, none⟩ (.int .i64 (32 * (rr : Int)))) bp L' t' k ∧ Only (fun q => q = bp) w (w2.setCell ⟨bp, 1, none⟩ (.int .i64 (32 * (rr : Int)))) := by
    refine ⟨?_, HO2.out.setCell (p := ⟨bp, 1, none⟩) (.inl rfl) _⟩
    have hb := HB2.out.set1 (32 * (rr : Int))
    rw [← h1, ← h2, HRr.out.1, HRr.out.2, HT1.out]
    exact hb
   have HFin := Lib.hid hfin
   clear h1 h2 hfin heq
   obtain ⟨e0, e1, e2, e3, q1, q2, q3⟩ := HC2.out
   go_wp2_with fail
   refine wp_region_G (n := 15) (E := fun i => i == 14) (S := fun w' => w'.cell? ⟨bp, 0, none⟩ = some (.int .i64 32) ∧ w'.cell? ⟨bp, 1, none⟩ = some (.int .i64 L0) ∧ w'.cell? ⟨bp, 2, none⟩ = some (.int .i64 t1) ∧ w'.frozen? ⟨bp, 1, none⟩ = false) (by kernel_rfl) rfl ⟨e0, e1, e2, q1⟩ (fun hHeld => ?_)
   refine tqW (i := 0) (v := ?_) rfl (.inr (by assumption)) ?_ ?_
   rotate_left
   ·(intro w; go_simp <;> (try with_reducible rfl))
   try simp only [Act.put, zq1, zq3, zq4, zq5, zq6]
   refine tqW (i := 1) (v := ?_) rfl (.inr (by assumption)) ?_ ?_
   rotate_left
   ·(intro w; go_simp <;> (try with_reducible rfl))
   try simp only [Act.put, zq1, zq2, zq3, zq4, zq5, zq6]
   refine tqW (i := 2) (v := ?_) rfl (.inr (by assumption)) ?_ ?_
   rotate_left
   ·(intro w; go_simp <;> (try with_reducible rfl))
   try simp only [Act.put, zq1, zq2, zq3, zq4, zq5, zq6]
   refine tqW (i := 3) (v := ?_) rfl (.inr (by assumption)) ?_ ?_
   rotate_left
   ·(intro w; go_simp <;> (try with_reducible rfl))
   try simp only [Act.put, zq1, zq2, zq3, zq4, zq5, zq6]
   refine tqK (i := 4) (v := ?_) rfl ?_ ?_
   rotate_left
   ·(intro w hSw; (try dsimp only at hSw); go_simp <;> (try with_reducible rfl))
   try simp only [Act.put, zq1, zq2, zq3, zq4, zq5, zq6]
   refine tqW (i := 5) (v := ?_) rfl (.inr (by assumption)) ?_ ?_
   rotate_left
   ·(intro w; go_simp <;> (try with_reducible rfl))
   try simp only [Act.put, zq1, zq2, zq3, zq4, zq5, zq6]
   refine tqW (i := 6) (v := ?_) rfl (.inr (by assumption)) ?_ ?_
   rotate_left
   ·(intro w; go_simp <;> (try with_reducible rfl))
   try simp only [Act.put, zq1, zq2, zq3, zq4, zq5, zq6]
   refine tqW (i := 7) (v := ?_) rfl (.inr (by assumption)) ?_ ?_
   rotate_left
   ·(intro w; go_simp <;> (try with_reducible rfl))
   try simp only [Act.put, zq1, zq2, zq3, zq4, zq5, zq6]
   refine tqK (i := 8) (v := ?_) rfl ?_ ?_
   rotate_left
   ·(intro w hSw; (try dsimp only at hSw); go_simp <;> (try with_reducible rfl))
   try simp only [Act.put, zq1, zq2, zq3, zq4, zq5, zq6]
   refine tqW (i := 9) (v := ?_) rfl (.inr (by assumption)) ?_ ?_
   rotate_left
   ·(intro w; go_simp <;> (try with_reducible rfl))
   try simp only [Act.put, zq1, zq2, zq3, zq4, zq5, zq6]
   refine wpAnyG_takeC (i := 10) (v := ?_) (f := 79) (args := #[.int .i64 (tt : Int)]) rfl (by kernel_rfl) (by kernel_rfl) (by kernel_rfl) rfl (by kernel_rfl) (by kernel_rfl) (fun _ _ _ h => h) (by assumption) (by rfl) ?_ ?_ ?_
   rotate_left
   ·(intro w; go_simp <;> (try with_reducible rfl))
   ·(intro w hSw; exact HRow.out w)
   try simp only [Act.put, zq1, zq2, zq3, zq4, zq5, zq6]
   refine wpAnyG_takeC (i := 11) (v := ?_) (f := 78) (args := #[.int .i64 32, .int .i64 (rr : Int)]) rfl (by kernel_rfl) (by kernel_rfl) (by kernel_rfl) rfl (by kernel_rfl) (by kernel_rfl) (fun _ _ _ h => h) (by assumption) (by rfl) ?_ ?_ ?_
   rotate_left
   ·(intro w; go_simp <;> (try with_reducible rfl))
   ·(intro w hSw; exact HTim.out w)
   try simp only [Act.put, zq1, zq2, zq3, zq4, zq5, zq6]
   refine tqW (i := 12) (v := ?_) rfl (.inr (by assumption)) ?_ ?_
   rotate_left
   ·(intro w; go_simp <;> (try with_reducible rfl))
   try simp only [Act.put, zq1, zq2, zq3, zq4, zq5, zq6]
   refine tqW (i := 13) (v := ?_) rfl (.inr (by assumption)) ?_ ?_
   rotate_left
   ·(intro w; go_simp <;> (try with_reducible rfl))
   try simp only [Act.put, zq1, zq2, zq3, zq4, zq5, zq6]
   refine wpAnyG_ready (rs := [14]) (by kernel_rfl) (by simp) ?_
   refine AllReadyG.late (i := 14) rfl (by kernel_rfl) (fun K hK => ?_) ?_
   ·(obtain ⟨s0, s1, s2, s3⟩ := hHeld; go_simp)
    refine hK.out _ _ ?_
    clear hK K
    try simp only [Act.put, zq1, zq2, zq3, zq4, zq5, zq6]
    refine wpAnyG_done (by kernel_rfl) ?_ _
    go_wp2_with fail
    go_meet
    exact ⟨HFin.out.1, HFin.out.2.drew⟩
   exact AllReadyG.nil
 case rest =>
 obtain ⟨hP, hO⟩ := hcut
 by_cases hf : k < (n : Int)
 ·have d1 : decide (k < (n : Int)) = true := decide_eq_true hf
  obtain ⟨h, hh⟩ : ∃ h, k / 2 = h := ⟨_, rfl⟩
  obtain ⟨m, hm⟩ : ∃ m, min (h + 1) (9223372036854775807 - k) = m := ⟨_, rfl⟩
  obtain ⟨k2, hk2⟩ : ∃ k2, k + m = k2 := ⟨_, rfl⟩
  have hres := HP.out
  rw [if_pos hf, decide_eq_true hf, hh, hm, hk2] at hres
  have HRes := Lib.hid hres
  have u1 : k.tdiv 2 = h := by rw [Int.tdiv_eq_ediv_of_nonneg (by omega)]; exact hh
  have u2 : IntKind.i64.wrap h = h := by rw [IntWalk.i64_in _ (by omega)]
  have u2' : wrap64 h = h := by rw [← IntWalk.i64_left]; exact u2
  have u3 : IntKind.i64.wrap (h + 1) = h + 1 := by rw [IntWalk.i64_in _ (by omega)]
  have u4 : IntKind.i64.wrap (9223372036854775807 - k) = 9223372036854775807 - k := by rw [IntWalk.i64_in _ (by omega)]
  have u5 : IntKind.i64.wrap (k + m) = k2 := by rw [hk2, IntWalk.i64_in _ (by omega)]
  have hfin : PaceAt (wc.setCell ⟨bp, 3, none⟩ (.int .i64 k2)) bp L' t' k2 ∧ Only (fun q => q = bp) w (wc.setCell ⟨bp, 3, none⟩ (.int .i64 k2)) := ⟨hP.set3 k2, hO.setCell (p := ⟨bp, 3, none⟩) (.inl rfl) _⟩
  have HFin := Lib.hid hfin
  obtain ⟨e0, e1, e2, e3, q1, q2, q3⟩ := hP.cells
  clear hres hfin hP hO hk2
  go_wp2_with fail
  refine wp_region_G (n := 20) (E := fun i => i == 19) (S := fun w' => w'.cell? ⟨bp, 3, none⟩ = some (.int .i64 k) ∧ w'.frozen? ⟨bp, 3, none⟩ = false) (by kernel_rfl) rfl ⟨e3, q3⟩ (fun hHeld => ?_)
  refine tqW (i := 0) (v := ?_) rfl (.inr (by assumption)) ?_ ?_
  rotate_left
  ·(intro w; go_simp <;> (try with_reducible rfl))
  try simp only [Act.put, zq1, zq3, zq4, zq5, zq6]
  refine tqW (i := 1) (v := ?_) rfl (.inr (by assumption)) ?_ ?_
  rotate_left
  ·(intro w; go_simp <;> (try with_reducible rfl))
  try simp only [Act.put, zq1, zq2, zq3, zq4, zq5, zq6]
  refine tqW (i := 2) (v := ?_) rfl (.inr (by assumption)) ?_ ?_
  rotate_left
  ·(intro w; go_simp <;> (try with_reducible rfl))
  try simp only [Act.put, zq1, zq2, zq3, zq4, zq5, zq6]
  refine tqK (i := 3) (v := ?_) rfl ?_ ?_
  rotate_left
  ·(intro w hSw; (try dsimp only at hSw); go_simp <;> (try with_reducible rfl))
  try simp only [Act.put, zq1, zq2, zq3, zq4, zq5, zq6]
  refine tqW (i := 4) (v := ?_) rfl (.inr (by assumption)) ?_ ?_
  rotate_left
  ·(intro w; go_simp <;> (try with_reducible rfl))
  try simp only [Act.put, zq1, zq2, zq3, zq4, zq5, zq6]
  refine tqW (i := 5) (v := ?_) rfl (.inr (by assumption)) ?_ ?_
  rotate_left
  ·(intro w; go_simp <;> (try with_reducible rfl))
  try simp only [Act.put, zq1, zq2, zq3, zq4, zq5, zq6]
  refine tqW (i := 6) (v := ?_) rfl (.inr (by assumption)) ?_ ?_
  rotate_left
  ·(intro w; go_simp <;> (try with_reducible rfl))
  try simp only [Act.put, zq1, zq2, zq3, zq4, zq5, zq6]
  refine tqK (i := 7) (v := ?_) rfl ?_ ?_
  rotate_left
  ·(intro w hSw; (try dsimp only at hSw); go_simp <;> (try with_reducible rfl))
  try simp only [Act.put, zq1, zq2, zq3, zq4, zq5, zq6]
  refine tqW (i := 8) (v := ?_) rfl (.inr (by assumption)) ?_ ?_
  rotate_left
  ·(intro w; go_simp <;> (try with_reducible rfl))
  try simp only [Act.put, zq1, zq2, zq3, zq4, zq5, zq6]
  refine tqW (i := 9) (v := ?_) rfl (.inr (by assumption)) ?_ ?_
  rotate_left
  ·(intro w; go_simp <;> (try with_reducible rfl))
  try simp only [Act.put, zq1, zq2, zq3, zq4, zq5, zq6]
  refine tqW (i := 10) (v := ?_) rfl (.inr (by assumption)) ?_ ?_
  rotate_left
  ·(intro w; go_simp <;> (try with_reducible rfl))
  try simp only [Act.put, zq1, zq2, zq3, zq4, zq5, zq6]
  refine tqW (i := 11) (v := ?_) rfl (.inr (by assumption)) ?_ ?_
  rotate_left
  ·(intro w; go_simp <;> (try with_reducible rfl))
  try simp only [Act.put, zq1, zq2, zq3, zq4, zq5, zq6]
  refine tqW (i := 12) (v := ?_) rfl (.inr (by assumption)) ?_ ?_
  rotate_left
  ·(intro w; go_simp <;> (try with_reducible rfl))
  try simp only [Act.put, zq1, zq2, zq3, zq4, zq5, zq6]
  refine tqK (i := 13) (v := ?_) rfl ?_ ?_
  rotate_left
  ·(intro w hSw; (try dsimp only at hSw); go_simp <;> (try with_reducible rfl))
  try simp only [Act.put, zq1, zq2, zq3, zq4, zq5, zq6]
  refine tqW (i := 14) (v := ?_) rfl (.inr (by assumption)) ?_ ?_
  rotate_left
  ·(intro w; go_simp <;> (try with_reducible rfl))
  try simp only [Act.put, zq1, zq2, zq3, zq4, zq5, zq6]
  refine tqW (i := 15) (v := ?_) rfl (.inr (by assumption)) ?_ ?_
  rotate_left
  ·(intro w; go_simp <;> (try with_reducible rfl))
  try simp only [Act.put, zq1, zq2, zq3, zq4, zq5, zq6]
  refine tqW (i := 16) (v := ?_) rfl (.inr (by assumption)) ?_ ?_
  rotate_left
  ·(intro w; go_simp <;> (try with_reducible rfl))
  try simp only [Act.put, zq1, zq2, zq3, zq4, zq5, zq6]
  refine tqW (i := 17) (v := ?_) rfl (.inr (by assumption)) ?_ ?_
  rotate_left
  ·(intro w; go_simp <;> (try with_reducible rfl))
  try simp only [Act.put, zq1, zq2, zq3, zq4, zq5, zq6]
  refine tqW (i := 18) (v := ?_) rfl (.inr (by assumption)) ?_ ?_
  rotate_left
  ·(intro w; go_simp <;> (try with_reducible rfl))
  try simp only [Act.put, zq1, zq2, zq3, zq4, zq5, zq6]
  refine wpAnyG_ready (rs := [19]) (by kernel_rfl) (by simp) ?_
  refine AllReadyG.late (i := 19) rfl (by kernel_rfl) (fun K hK => ?_) ?_
  ·(obtain ⟨s1, s2⟩ := hHeld; go_simp)
   refine hK.out _ _ ?_
   clear hK K
   try simp only [Act.put, zq1, zq2, zq3, zq4, zq5, zq6]
   refine wpAnyG_done (by kernel_rfl) ?_ _
   go_wp2_with fail
   go_ret2
   exact ⟨L', t', k2, an, true, HRes.out, rfl, HFin.out.1, HFin.out.2.drew⟩
  exact AllReadyG.nil
 ·have d1 : decide (k < (n : Int)) = false := decide_eq_false hf
  have hres := HP.out
  rw [if_neg hf, decide_eq_false hf] at hres
  have HRes := Lib.hid hres
  have HFin := Lib.hid (And.intro hP hO)
  obtain ⟨e0, e1, e2, e3, q1, q2, q3⟩ := hP.cells
  clear hres hP hO
  go_wp2_with fail
  go_ret2
  exact ⟨L', t', k, an, false, HRes.out, rfl, HFin.out.1, HFin.out.2⟩
theorem luby_New_any (w : World) : Calls Tryz.prog 36 #[.int .i64 32, .int .i64 300] w fun e w' => e = .returned (.pointer (some ⟨w.heap.size, 0, none⟩)) ∧ PaceAt w' w.heap.size 32 0 300 ∧ Only (fun _ => False) w w' := by
 have hfin : PaceAt (w.alloc (.cells #[cI 32, cI 32, cI 0, cI 300] 105)) w.heap.size 32 0 300 ∧ Only (fun _ => False) w (w.alloc (.cells #[cI 32, cI 32, cI 0, cI 300] 105)) := ⟨heap_alloc_new _ _, (Only.refl _ _).alloc _⟩
 have HFin := Lib.hid hfin
 clear hfin
 go_enter Tryz.func36, Tryz.ntmps36
 go_wp2_with fail
 go_ret
 exact ⟨rfl, HFin.out⟩
end
end Go.Proofs.YtjedgdamommgeaaGreat
namespace Go.Proofs.YtjedgdamommgeaaGreat
open Go.RowKit
open Tr
section
open Go.Lib Go.Sort Go.Shelf
theorem enter_Drop1 : ∀ args w, (callFunc 131 args).run Tryz.prog w = .ok (.enter 131 args) w := enters_of Tryz.func131 (by kernel_rfl) rfl
end
section
variable {w : World} {g : Tag} {b : Nat} {V : TrV} {T : Trail}
theorem Drop1_any {W : World} {bn k : Nat} (hc : W.cell? ⟨bn, 0, none⟩ = some (cN k)) (x : Int) : Calls Tryz.prog 131 #[.int .i64 x, .pointer (some ⟨bn, 0, none⟩)] W fun e W' => e = .returned (.bool (x == (k : Int))) ∧ W' = W := by
 go_enter Tryz.func131, Tryz.ntmps131
 go_wp2_with fail
 go_ret
 exact ⟨rfl, rfl⟩
theorem TrAt.storeG (H : TrAt w g b V T) {bg ng cg : Nat} (hvg : V.vg = .slice (some ⟨bg, 0, none⟩) ng cg) (k : Nat) : TrAt (w.setCell ⟨bg, k, none⟩ (.bool true)) g b V { T with gone := T.gone.set k true } ∧ Only (Mine g) w (w.setCell ⟨bg, k, none⟩ (.bool true)) := by
 have hgn := H.gn
 rw [hvg] at hgn
 have tg : g bg = (35, 0) := hgn.tg bg rfl
 have hb : ∀ (t : Nat × Nat), (35, 0) ≠ t → g bg ≠ t := fun t ht e => ht (tg.symm.trans e)
 refine ⟨⟨set_block_other H.blk (fun e => by have := H.tb; rw [e] at this; rw [tg] at this; simp at this) _, H.tb, H.a.far (hb _ (by simp)) _, H.c.far (hb _ (by simp)) _, H.ul, fun i hi => (H.ci i hi).far (hb _ (by simp)) _, ?_, H.wr.far (hb _ (by simp)) _, H.wl, fun p hp => (H.wi p hp).far (hb _ (by simp)) _, H.l.far (hb _ (by simp)) _, H.L.far (hb _ (by simp)) _, H.s.far (hb _ (by simp)) _, H.k.far (hb _ (by simp)) _, fun q hq => H.fresh q (by simpa using hq)⟩, (Only.refl (Mine g) w).setCell (p := ⟨bg, k, none⟩) (.inl (by unfold Mine; rw [tg]; simp)) _⟩
 have h1 := hgn.store k (.bool true)
 rw [hvg]
 show Row _ g (35, 0) _ _ ((T.gone.set k true).map Value.bool)
 rw [List.map_set]
 exact h1
set_option maxRecDepth 100000 in
set_option maxHeartbeats 3200000 in
theorem prop_Drop_yes (H : TrAt w g b V T) (I : Tr.Inv T) (k : Nat) (hlive : T.live k) : Calls Tryz.prog 83 #[.pointer (some ⟨b, 0, none⟩), cN k] w fun e w' => e = .returned (.tuple #[]) ∧ TrTo w g b (T.drop (k : Int)) w' := by
 have o := I.ok
 have hn := o.n
 have hcb := o.cb
 have hk := hlive.1
 have hth : T.there (k : Int) = true := there_iff.2 hlive
 have hbn : (g w.heap.size).1 = 0 := H.fresh _ (Nat.le_refl _)
 have H0 : TrAt (w.alloc (.cells #[cN k] 3)) g b V T := H.alloc _
 have hbox : (w.alloc (.cells #[cN k] 3)).cell? ⟨w.heap.size, 0, none⟩ = some (cN k) := cell_newE _ _ _ _ rfl
 have ow0 : Only (fun _ => False) w (w.alloc (.cells #[cN k] 3)) := (Only.refl _ w).alloc _
 have hbl : w.heap.size < (w.alloc (.cells #[cN k] 3)).heap.size := by simp
 obtain ⟨w0, hw0⟩ : ∃ w0, w.alloc (.cells #[cN k] 3) = w0 := ⟨_, rfl⟩
 obtain ⟨bn, hbne⟩ : ∃ bn, w.heap.size = bn := ⟨_, rfl⟩
 rw [hw0] at H0 hbox ow0 hbl
 rw [hbne] at hbn hbox hbl
 -- the mark
 have hgl := o.gl
 obtain ⟨bg, cg, hvg, -, -, tgg, -⟩ := H0.gn.pos (by rw [List.length_map]; omega)
 have q2 := H0.f2
 have hgr := H0.gn
 rw [hvg, List.length_map] at q2 hgr
 have qg := hgr.cellM (f := Value.bool) true (i := k) (by omega)
 rw [hlive.2] at qg
 have fg := hgr.free k
 obtain ⟨w1, hw1⟩ : ∃ w1, w0.setCell ⟨bg, k, none⟩ (.bool true) = w1 := ⟨_, rfl⟩
 obtain ⟨T1, hT1⟩ : ∃ T1 : Trail, { T with gone := T.gone.set k true } = T1 := ⟨_, rfl⟩
 have hG := H0.storeG (by rw [hvg]) k
 rw [hw1, hT1] at hG
 obtain ⟨H1, o01⟩ := hG
 have e1 : T1.cls = T.cls ∧ T1.watch = T.watch ∧ T1.n = T.n := by rw [← hT1]; exact ⟨rfl, rfl, rfl⟩
 have hcl1 : T1.cl k = T.cl k := by unfold Trail.cl; rw [e1.1]
 have hwl1 : T1.watch.length = 2 * T1.n := by rw [e1.2.1, e1.2.2]; exact o.wl
 have hbox1 : w1.cell? ⟨bn, 0, none⟩ = some (cN k) := cell_keep hbox o01 (by unfold Mine; rw [hbn]; simp)
 have hbl1 : bn < w1.heap.size := Nat.lt_of_lt_of_le hbl o01.size
 -- the clause
 have q1 := H1.f1
 obtain ⟨bcs, cc, hvc, -, -, -, -⟩ := H1.c.pos (by rw [H1.ul, e1.1]; omega)
 have hrc := H1.c
 rw [hvc, H1.ul] at q1 hrc
 have q3 := hrc.cell nilS (i := k) (by rw [H1.ul, e1.1]; exact hk)
 have hrk := H1.ci k (by rw [e1.1]; exact hk)
 rw [show T1.cls.getD k [] = T1.cl k from rfl, hcl1] at hrk
 obtain ⟨au, cu, hvu, hu1, -⟩ := hrk.shape
 simp only [List.length_map] at hvu hu1
 rw [hvu] at q3
 rw [e1.1] at q1
 obtain ⟨c, hc⟩ : ∃ c, T.cl k = c := ⟨_, rfl⟩
 have hgc := o.cl hk
 have hcl := o.cll hk
 rw [hc] at q3 hvu hu1 hgc hcl
 have hauc : 0 < c.length → ∃ bc, au = some ⟨bc, 0, none⟩ ∧ g bc = (34, k) := by
  intro hp
  have hh := hrk
  rw [hc, hvu] at hh
  obtain ⟨bc, _, he, _, _, ht, _⟩ := hh.pos (by simpa using hp)
  simp at he; exact ⟨bc, he.1, ht⟩
 have hwb := fun p => I.wat.len p
 obtain ⟨mm, hmm⟩ : ∃ mm : Nat, mm = min c.length 2 := ⟨_, rfl⟩
 have hmm2 : min (c.length : Int) 2 = (mm : Int) := by omega
 have hmb1 : mm ≤ 2 := by omega
 have hmb2 : mm ≤ c.length := by omega
 have hmmc : (mm : Int) ≤ (cu : Int) := by omega
 have hst : ∀ W, Only (fun _ => False) w1 W → WLoop w1 g b V T1 (delW T.watch (c.take 0) k) W g V.ws := fun W ho => ⟨by
  show TrAt W g b V { T1 with watch := delW T.watch (c.take 0) k }
  have : ({ T1 with watch := delW T.watch (c.take 0) k } : Trail) = T1 := by rw [show delW T.watch (c.take 0) k = T1.watch from e1.2.1.symm]
  rw [this]; exact H1.only0 ho, Agree.refl _ _, ho.mono fun _ f => f.elim, by show T.watch.length = _; rw [e1.2.2]; exact o.wl⟩
 obtain ⟨m2, hM2⟩ : ∃ m2, 2 * T.n = m2 := ⟨_, rfl⟩
 have hvwl : 0 < c.length → ∃ bt ct, V.vw = .slice (some ⟨bt, 0, none⟩) m2 ct := by
  intro hp
  have hgl := hgc.lit _ (getD_mem' 0 hp)
  obtain ⟨bt, ct, hv, -, -, -, -⟩ := H.wr.pos (by rw [H.wl]; omega)
  rw [H.wl, hM2] at hv
  exact ⟨bt, ct, hv⟩
 have hbq : ∀ {wr g' ws W}, WLoop w1 g b V T1 W wr g' ws → wr.cell? ⟨bn, 0, none⟩ = some (cN k) := fun hL => cell_keep hbox1 hL.on (by unfold Mine; rw [hbn]; simp)
 have hlit : ∀ j, j < c.length → c.getD j 0 ≠ 0 ∧ (c.getD j 0).natAbs ≤ T.n := fun j hj => hgc.lit _ (getD_mem' 0 hj)
 have hclk : ∀ {wr g' ws W}, WLoop w1 g b V T1 W wr g' ws → Row wr g' (34, k) 3 (.slice au c.length cu) (c.map cI) := fun hL => by
  have h1 := hL.at_.ci k (by show k < T1.cls.length; rw [e1.1]; exact hk)
  rw [show ({ T1 with watch := _ } : Trail).cls.getD k [] = T1.cl k from rfl, hcl1, hc] at h1
  rwa [show ({ V with ws := _ } : TrV).us = V.us from rfl, hvu] at h1
 have hend : ∀ {wr g' ws}, WLoop w1 g b V T1 (delW T.watch (c.take 2) k) wr g' ws → TrTo w g b (T.drop (k : Int)) wr := fun {wr g' ws} hL => by
  have ht : T.drop (k : Int) = { T1 with watch := delW T.watch (c.take 2) k } := by
   unfold Trail.drop
   rw [if_pos hth, ← hT1]
   simp only [Int.toNat_natCast]
   rw [hc]
  rw [ht]
  have a0 : Agree w g g' := fun q hq => hL.ag q (Nat.lt_of_lt_of_le (Nat.lt_of_lt_of_le hq ow0.size) o01.size)
  refine ⟨g', _, hL.at_, a0, ?_⟩
  exact ((ow0.mono fun _ f => f.elim).same o01).same hL.on
 have hkg : k < T.gone.length := by omega
 have hkg2 : (k : Int) < (T.gone.length : Int) := by omega
 have hkc2 : (k : Int) < (T.cls.length : Int) := by omega
 have HSt := Lib.hid hst
 have HVw := Lib.hid hvwl
 have HBq := Lib.hid (fun wr g' ws W (h : WLoop w1 g b V T1 W wr g' ws) => hbq h)
 have HLit := Lib.hid hlit
 have HClk := Lib.hid (fun wr g' ws W (h : WLoop w1 g b V T1 W wr g' ws) => hclk h)
 have HEnd := Lib.hid (fun wr g' ws (h : WLoop w1 g b V T1 (delW T.watch (c.take 2) k) wr g' ws) => hend h)
 have HAu := Lib.hid hauc
 have HWb := Lib.hid hwb
 have HM2 := Lib.hid hM2
 have HMm := Lib.hid hmm
 have HI := Lib.hid I
 have HGc := Lib.hid hgc
 have HE1 := Lib.hid e1
 have HTh := Lib.hid (prop_there_any H0 o (k : Int) true hth)
 have qb := hbox
 have qb1 := hbox1
 clear hst hvwl hbq hlit hclk hend hauc hwb hM2 hmm I o H H0 H1 hrk hrc hgc hvu hvc hc ow0 hbox hbox1 hth hlive e1 hcl1 hwl1 hT1 hgr o01 hgl hvg
 go_enter Tryz.func83, Tryz.ntmps83
 go_wp2_with fail
 refine HTh.out.mono ?_
 rintro e wx ⟨rfl, rfl⟩
 go_wp2_with fail
 refine wp_region_G (n := 7) (E := fun i => i == 6) (S := fun w' => w'.cell? ⟨b, 2, none⟩ = some (.slice (some ⟨bg, 0, none⟩) T.gone.length cg) ∧ w'.cell? ⟨bn, 0, none⟩ = some (cN k) ∧ w'.cell? ⟨bg, k, none⟩ = some (.bool false) ∧ w'.frozen? ⟨bg, k, none⟩ = false) (by kernel_rfl) rfl ⟨q2, qb, qg, fg⟩ (fun hHeld => ?_)
 refine tqW (i := 0) (v := ?_) rfl (.inr (by assumption)) ?_ ?_
 rotate_left
 ·(intro w; go_simp <;> (try with_reducible rfl))
 try simp only [Act.put, zq1, zq3, zq4, zq5, zq6]
 refine tqW (i := 1) (v := ?_) rfl (.inr (by assumption)) ?_ ?_
 rotate_left
 ·(intro w; go_simp <;> (try with_reducible rfl))
 try simp only [Act.put, zq1, zq2, zq3, zq4, zq5, zq6]
 refine tqW (i := 2) (v := ?_) rfl (.inr (by assumption)) ?_ ?_
 rotate_left
 ·(intro w; go_simp <;> (try with_reducible rfl))
 try simp only [Act.put, zq1, zq2, zq3, zq4, zq5, zq6]
 refine tqK (i := 3) (v := ?_) rfl ?_ ?_
 rotate_left
 ·(intro w hSw; (try dsimp only at hSw); go_simp <;> (try with_reducible rfl))
 try simp only [Act.put, zq1, zq2, zq3, zq4, zq5, zq6]
 refine tqK (i := 4) (v := ?_) rfl ?_ ?_
 rotate_left
 ·(intro w hSw; (try dsimp only at hSw); go_simp <;> (try with_reducible rfl))
 try simp only [Act.put, zq1, zq2, zq3, zq4, zq5, zq6]
 refine tqW (i := 5) (v := ?_) rfl (.inr (by assumption)) ?_ ?_
 rotate_left
 ·(intro w; go_simp <;> (try with_reducible rfl))
 try simp only [Act.put, zq1, zq2, zq3, zq4, zq5, zq6]
 refine wpAnyG_ready (rs := [6]) (by kernel_rfl) (by simp) ?_
 refine AllReadyG.late (i := 6) rfl (by kernel_rfl) (fun K hK => ?_) ?_
 ·(obtain ⟨s1, s2, s3, s4⟩ := hHeld; go_simp)
  refine hK.out _ _ ?_
  clear hK K
  try simp only [Act.put, zq1, zq2, zq3, zq4, zq5, zq6]
  refine wpAnyG_done (by kernel_rfl) ?_ _
  clear s1 s2 s3 s4 q2 qg fg
  go_wp2_with fail
  go_quiet (fail)
  go_wp2_with fail
  clear q1 q3 qb1
  go_loopw [35] (fun v wr => ∃ (j : Nat) (g' : Tag) (ws : List Value), v = .int .i64 j ∧ j ≤ mm ∧ WLoop w1 g b V T1 (delW T.watch (c.take j) k) wr g' ws) (fun v _ => mm - (intOf v).toNat)
  case atStart => exact ⟨0, g, V.ws, rfl, Nat.zero_le _, HSt.out _ (by repeat (first | exact Only.refl _ _ | apply Only.drew | apply Only.alloc | apply Only.drewN))⟩
  case round =>
   clear HSt
   obtain ⟨j, g1, ws, rfl, hj, hL⟩ := hrel
   by_cases cj : j < mm
   ·obtain ⟨bc, rfl, htb⟩ := HAu.out (by omega)
    obtain ⟨bt, ct, hvw⟩ := HVw.out (by omega)
    have hjc : j < c.length := by omega
    have hlj := HLit.out j hjc
    have hcr := HClk.out _ _ _ _ hL
    have qx := hcr.cellM (f := cI) 0 (i := j) hjc
    have qb := HBq.out _ _ _ _ hL
    have hds := delW_step T.watch c k hjc
    obtain ⟨x, hx⟩ : ∃ x, c.getD j 0 = x := ⟨_, rfl⟩
    rw [hx] at hlj qx hds
    obtain ⟨W, hW⟩ : ∃ W, delW T.watch (c.take j) k = W := ⟨_, rfl⟩
    rw [hW] at hL hds
    have hWle : ∀ p, (W.getD p []).length ≤ T.cls.length := fun p => by rw [← hW]; exact delW_le k _ _ _ HWb.out p
    have hpl2 : place x < 2 * T.n := Rup.place_lt hlj
    have hpl3 : place x < 2 * T1.n := by rw [HE1.out.2.2]; exact hpl2
    have hpl : place x < m2 := by rw [← HM2.out]; exact hpl2
    have p3 := hL.at_.f3
    have hwr := hL.at_.wr
    have hwsl : ws.length = m2 := by
     have h1 : ws.length = 2 * T1.n := hL.at_.wl
     rw [HE1.out.2.2] at h1
     have := HM2.out
     omega
    rw [show ({ V with ws := ws } : TrV).vw = V.vw from rfl, hvw] at p3
    rw [show ({ V with ws := ws } : TrV).vw = V.vw from rfl, hvw, show ({ V with ws := ws } : TrV).ws = ws from rfl] at hwr
    have htw : g1 bt = (36, 0) := hwr.tg bt rfl
    have p4 := hwr.cell nilS (i := place x) (by omega)
    have p5 := hwr.free (place x)
    have hru := hL.at_.wi (place x) hpl3
    rw [show ({ T1 with watch := W } : Trail).watch.getD (place x) [] = W.getD (place x) [] from rfl, show ({ V with ws := ws } : TrV).ws = ws from rfl] at hru
    obtain ⟨aw, cpw, hhd, -, -⟩ := hru.shape
    simp only [List.length_map] at hhd
    have hown := hru.own
    have hxl : ((W.getD (place x) []).map fun (n : Nat) => (n : Int)).length = ((W.getD (place x) []).map cN).length := by simp
    rw [← map_cN, List.length_map, ] at hown
    have hWl := hWle (place x)
    have hrng : ∀ y ∈ (W.getD (place x) []).map fun (n : Nat) => (n : Int), InI64 y := by
     intro y hy
     obtain ⟨m, hm, rfl⟩ := List.mem_map.1 hy
     have hmem : m ∈ T.wt (place x) := by
      have : m ∈ (delW T.watch (c.take j) k).getD (place x) [] := by rw [hW]; exact hm
      rw [delW_get k _ _ (fun l hl => by rw [HI.out.ok.wl]; exact Rup.place_lt (HGc.out.lit l (List.mem_of_mem_take hl)))] at this
      split at this
      ·exact (List.mem_filter.1 this).1
      ·exact this
     have := (HI.out.wat.snd _ _ hmem).1
     unfold InI64; omega
    have hdel : ∀ Wd, Only (fun _ => False) wr Wd → Calls Tryz.prog 110 #[.slice aw (W.getD (place x) []).length cpw, .func (.func 131) #[] #[.pointer (some ⟨bn, 0, none⟩)]] Wd (DelTo Wd (.slice aw (W.getD (place x) []).length cpw) (keepF (fun y => y == (k : Int)) ((W.getD (place x) []).map fun (n : Nat) => (n : Int)))) := by
     intro Wd oD
     rw [hhd] at hown
     refine DeleteFunc_own (own_only hown oD (fun _ _ f => f)) hrng (by rw [List.length_map]; omega) _ _ _ enter_Drop1 ?_
     intro y hy W2 o2
     refine (Drop1_any ?_ y).mono fun _ _ ⟨he, hw⟩ => ⟨he, by rw [hw]; exact Only.refl _ _⟩
     refine cell_keep (cell_keep qb oD (fun f => f)) o2 (fun h => ?_)
     have hgb := hru.tg bn (by rw [hhd]; exact h)
     rw [hL.ag bn hbl1] at hgb
     rw [hgb] at hbn
     simp at hbn
    rw [hhd] at p4
    have hfin : ∀ wA w5 ao cap, Only (fun _ => False) wr wA → w5.ownsRow 0 3 1 (.slice ao (keepF (fun y => y == (k : Int)) ((W.getD (place x) []).map fun (n : Nat) => (n : Int))).length cap) (keepF (fun y => y == (k : Int)) ((W.getD (place x) []).map fun (n : Nat) => (n : Int))).length ((keepF (fun y => y == (k : Int)) ((W.getD (place x) []).map fun (n : Nat) => (n : Int))).map cI) →
      Only (fun q => Value.ownBlock (.slice aw (W.getD (place x) []).length cpw) = some q) wA w5 → Value.ownBlock (.slice ao (keepF (fun y => y == (k : Int)) ((W.getD (place x) []).map fun (n : Nat) => (n : Int))).length cap) = Value.ownBlock (.slice aw (W.getD (place x) []).length cpw) →
      WLoop w1 g b V T1 (delW T.watch (c.take (j + 1)) k) (w5.setCell ⟨bt, place x, none⟩ (.slice ao (keepF (fun y => y == (k : Int)) ((W.getD (place x) []).map fun (n : Nat) => (n : Int))).length cap)) g1 (ws.set (place x) (.slice ao (keepF (fun y => y == (k : Int)) ((W.getD (place x) []).map fun (n : Nat) => (n : Int))).length cap)) := by
     intro wA w5 ao cap oA r5 o5 hbk
     have h1 := hL.at_.wdel (k := k) hL.wl hpl3 hvw wA w5 oA (keepF_nat k _) r5 (by rw [show ({ V with ws := ws } : TrV).ws = ws from rfl, hhd]; exact o5) (by rw [show ({ V with ws := ws } : TrV).ws = ws from rfl, hhd]; exact hbk)
     refine ⟨?_, hL.ag, hL.on.mine hL.ag h1.2, by rw [hds, List.length_set]; exact hL.wl⟩
     rw [hds]; exact h1.1
    have hS5 : ∀ w', Only (fun q => Value.ownBlock (.slice aw (W.getD (place x) []).length cpw) = some q) wr w' → w'.cell? ⟨b, 3, none⟩ = some (.slice (some ⟨bt, 0, none⟩) m2 ct) ∧ w'.cell? ⟨bt, place x, none⟩ = some (.slice aw (W.getD (place x) []).length cpw) ∧ w'.frozen? ⟨bt, place x, none⟩ = false ∧ Only (fun q => Value.ownBlock (.slice aw (W.getD (place x) []).length cpw) = some q) wr w' := by
     intro w' h
     have hne : ∀ q t, g1 q = t → t ≠ (37, place x) → ¬ Value.ownBlock (.slice aw (W.getD (place x) []).length cpw) = some q := fun q t h1 h2 h3 => h2 (h1.symm.trans (hru.tg q (by rw [hhd]; exact h3)))
     exact ⟨cell_keep p3 h (hne b _ hL.at_.tb (by simp)), cell_keep p4 h (hne bt _ htw (by simp)), free_keep p4 p5 h (hne bt _ htw (by simp)), h⟩
    have hPl := fun W : World => prop_place_any (w := W) x T.n hn hlj (place x : Int) rfl
    have HPl := Lib.hid hPl
    have hPq : ∀ n, Calls Tryz.prog 89 #[.int .i64 x] (wr.drewN n) fun e w'' => e = .returned (.int .i64 (place x : Int)) ∧ ∃ m, w'' = wr.drewN m := fun n => (hPl (wr.drewN n)).mono fun e w' ⟨h1, h2⟩ => ⟨h1, n, h2.symm⟩
    have HPq := Lib.hid hPq
    have HDel := Lib.hid hdel
    have HFin := Lib.hid hfin
    have HS5 := Lib.hid hS5
    have pbb : (place x : Int) < (m2 : Int) := by omega
    have ewj : IntKind.i64.wrap ((j : Int) + 1) = ((j + 1 : Nat) : Int) := by rw [IntWalk.i64_in _ (by omega)]; rfl
    have hjm : (j : Int) < (mm : Int) := by omega
    clear hPl hPq hdel hfin hS5 hru hwr hown hrng hL hds hcr hWle hxl hhd
    generalize (W.getD (place x) []).length = wn at *
    generalize keepF (fun y => y == (k : Int)) ((W.getD (place x) []).map fun (n : Nat) => (n : Int)) = ys at *
    go_wp2_with fail
    go_quiet (exact HPq.out _)
    go_wp2_with fail
    refine wp_region_G (n := 11) (E := fun i => i == 10) (S := fun w' => w'.cell? ⟨b, 3, none⟩ = some (.slice (some ⟨bt, 0, none⟩) m2 ct) ∧ w'.cell? ⟨bt, place x, none⟩ = some (.slice aw wn cpw) ∧ w'.frozen? ⟨bt, place x, none⟩ = false ∧ Only (fun q => Value.ownBlock (.slice aw wn cpw) = some q) wr w') (by kernel_rfl) rfl (HS5.out _ (by repeat (first | exact Only.refl _ _ | apply Only.drew | apply Only.alloc | apply Only.drewN))) (fun hHeld => ?_)
    refine tqW (i := 0) (v := ?_) rfl (.inr (by assumption)) ?_ ?_
    rotate_left
    ·(intro w; go_simp <;> (try with_reducible rfl))
    try simp only [Act.put, zq1, zq3, zq4, zq5, zq6]
    refine tqW (i := 1) (v := ?_) rfl (.inr (by assumption)) ?_ ?_
    rotate_left
    ·(intro w; go_simp <;> (try with_reducible rfl))
    try simp only [Act.put, zq1, zq2, zq3, zq4, zq5, zq6]
    refine tqW (i := 2) (v := ?_) rfl (.inr (by assumption)) ?_ ?_
    rotate_left
    ·(intro w; go_simp <;> (try with_reducible rfl))
    try simp only [Act.put, zq1, zq2, zq3, zq4, zq5, zq6]
    refine tqK (i := 3) (v := ?_) rfl ?_ ?_
    rotate_left
    ·(intro w hSw; (try dsimp only at hSw); go_simp <;> (try with_reducible rfl))
    try simp only [Act.put, zq1, zq2, zq3, zq4, zq5, zq6]
    refine tqW (i := 4) (v := ?_) rfl (.inr (by assumption)) ?_ ?_
    rotate_left
    ·(intro w; go_simp <;> (try with_reducible rfl))
    try simp only [Act.put, zq1, zq2, zq3, zq4, zq5, zq6]
    refine wpAnyG_takeC (i := 5) (v := ?_) (f := 89) (args := #[.int .i64 x]) rfl (by kernel_rfl) (by kernel_rfl) (by kernel_rfl) rfl (by kernel_rfl) (by kernel_rfl) (fun _ _ _ h => h) (by assumption) (by rfl) ?_ ?_ ?_
    rotate_left
    ·(intro w; go_simp <;> (try with_reducible rfl))
    ·(intro w hSw; exact HPl.out w)
    try simp only [Act.put, zq1, zq2, zq3, zq4, zq5, zq6]
    refine tqW (i := 6) (v := ?_) rfl (.inr (by assumption)) ?_ ?_
    rotate_left
    ·(intro w; go_simp <;> (try with_reducible rfl))
    try simp only [Act.put, zq1, zq2, zq3, zq4, zq5, zq6]
    refine wpAnyG_ready (rs := [7]) (by kernel_rfl) (by simp) ?_
    refine AllReadyG.cons (i := 7) rfl (fun K hK => ?_) ?_
    ·go_simp
     refine hK.out _ _ ?_ (fun hHeld => ?_)
     ·(try dsimp only) <;> (exact HS5.out _ (by repeat (first | exact Only.refl _ _ | apply Only.drew | apply Only.alloc | apply Only.drewN)))
     clear hK K
     try simp only [Act.put, zq1, zq2, zq3, zq4, zq5, zq6]
     refine wpAnyG_ready (rs := [8]) (by kernel_rfl) (by simp) ?_
     refine AllReadyG.cons (i := 8) rfl (fun K hK => ?_) ?_
     ·(go_simp; refine (HDel.out _ (by repeat (first | exact Only.refl _ _ | apply Only.drew | apply Only.alloc | apply Only.drewN))).mono ?_; rintro e w5 ⟨ao5, cap5, rfl, r5, o5, b5⟩; try go_wp2_with fail)
      refine hK.out _ _ ?_ (fun hHeld => ?_)
      ·(try dsimp only) <;> (exact HS5.out _ (Only.same (by repeat (first | exact Only.refl _ _ | apply Only.drew | apply Only.alloc | apply Only.drewN)) o5))
      clear hK K
      try simp only [Act.put, zq1, zq2, zq3, zq4, zq5, zq6]
      refine tqW (i := 9) (v := ?_) rfl (.inr (by assumption)) ?_ ?_
      rotate_left
      ·(intro w; go_simp <;> (try with_reducible rfl))
      try simp only [Act.put, zq1, zq2, zq3, zq4, zq5, zq6]
      refine wpAnyG_ready (rs := [10]) (by kernel_rfl) (by simp) ?_
      refine AllReadyG.late (i := 10) rfl (by kernel_rfl) (fun K hK => ?_) ?_
      ·(obtain ⟨s1, s2, s3, s4⟩ := hHeld; go_simp)
       refine hK.out _ _ ?_
       clear hK K
       try simp only [Act.put, zq1, zq2, zq3, zq4, zq5, zq6]
       refine wpAnyG_done (by kernel_rfl) ?_ _
       have hfin := HFin.out _ w5 ao5 cap5 (by repeat (first | exact Only.refl _ _ | apply Only.drew | apply Only.alloc | apply Only.drewN)) r5 o5 b5
       have HFin2 := Lib.hid hfin
       clear hfin r5 o5 b5 HFin
       go_wp2_with fail
       go_roundw
       case rel => exact ⟨j + 1, g1, _, by first | rfl | go_num, by omega, HFin2.out⟩
       case measure => simp [intOf]; omega
      exact AllReadyG.nil
     exact AllReadyG.nil
    exact AllReadyG.nil
   ·have htk : c.take j = c.take 2 := by
     have hje : j = min c.length 2 := by rw [← HMm.out]; omega
     rw [hje]
     rcases Nat.le_total c.length 2 with h | h
     ·rw [Nat.min_eq_left h, List.take_of_length_le (Nat.le_refl _), List.take_of_length_le h]
     ·rw [Nat.min_eq_right h]
    rw [htk] at hL
    have hend := HEnd.out _ _ _ hL
    have hjm : j = mm := by omega
    subst hjm
    have HEnd2 := Lib.hid hend
    clear hend hL
    go_wp2_with fail
    go_end0
    exact ⟨rfl, HEnd2.out⟩
 exact AllReadyG.nil
end
end Go.Proofs.YtjedgdamommgeaaGreat

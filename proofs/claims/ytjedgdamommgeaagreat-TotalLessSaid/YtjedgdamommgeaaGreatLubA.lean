/- Lub1 Lub2 PropD, in one text. -/
import Derived.Test.YtjedgdamommgeaaGreatShelf
import Derived.Test.YtjedgdamommgeaaGreatBase
import Derived.Test.YtjedgdamommgeaaGreatSvA
import Derived.Lib.MinMax
import Derived.Test.YtjedgdamommgeaaGreatRegs
import Derived.Test.YtjedgdamommgeaaGreatPrE
import Derived.Test.YtjedgdamommgeaaGreatPrO
import Derived.Test.YtjedgdamommgeaaGreatLrnP
set_option linter.unusedVariables false
namespace Go.Proofs.YtjedgdamommgeaaGreat
open Go.RowKit
section
variable {w : World}
theorem row_open {f m : Nat} : Sv.rowF (f + 1) m = if m + 1 = 2 ^ (Nat.log2 m + 1) then 2 ^ Nat.log2 m else Sv.rowF f (m - (2 ^ Nat.log2 m - 1)) := rfl
theorem bitLen_log {m : Nat} (h : 0 < m) (hb : m < 2 ^ 64) : Lib.bitLen m = Nat.log2 m + 1 := by
 have hlo : 2 ^ Nat.log2 m ≤ m := Nat.log2_self_le (by omega)
 have hhi : m < 2 ^ (Nat.log2 m + 1) := Nat.lt_log2_self
 rw [Lib.bitLen_shift _ m hlo hb]
 have hp : 0 < 2 ^ Nat.log2 m := Nat.pow_pos (by decide)
 have h1 : m / 2 ^ Nat.log2 m = 1 := by
  rw [Nat.pow_succ] at hhi
  refine Nat.div_eq_of_lt_le ?_ ?_
  ·omega
  ·omega
 rw [h1]
 have : Lib.bitLen 1 = 1 := by decide
 rw [this]
set_option maxRecDepth 100000 in
set_option maxHeartbeats 1600000 in
theorem luby_Row_any (n : Nat) (h1 : 1 ≤ n) (h2 : n ≤ 1000000000) (r : Int) (hr : (Sv.row n : Int) = r) : Calls Tryz.prog 79 #[.int .i64 (n : Int)] w fun e w' => e = .returned (.int .i64 r) ∧ w = w' := by
 have hst : Sv.rowF n n = Sv.row n := rfl
 obtain ⟨R, hR⟩ : ∃ R, Sv.row n = R := ⟨_, rfl⟩
 rw [hR] at hst hr
 subst hr
 have d1 : decide ((n : Int) < 1) = false := decide_eq_false (by omega)
 have HSt := Lib.hid hst
 clear hst hR
 go_enter Tryz.func79, Tryz.ntmps79
 go_wp2_with fail
 go_loopw [0] (fun v wr => w = wr ∧ ∃ m f : Nat, v = .int .i64 (m : Int) ∧ 1 ≤ m ∧ m ≤ n ∧ m ≤ f ∧ Sv.rowF f m = R) (fun v _ => (intOf v).toNat)
 case atStart => exact ⟨rfl, n, n, rfl, h1, Nat.le_refl _, Nat.le_refl _, HSt.out⟩
 case round =>
  clear HSt
  obtain ⟨rfl, m, f, rfl, hm1, hm2, hmf, hR⟩ := hrel
  obtain ⟨f, rfl⟩ : ∃ g, f = g + 1 := ⟨f - 1, by omega⟩
  rw [row_open] at hR
  obtain ⟨L, hL⟩ : ∃ L, Nat.log2 m = L := ⟨_, rfl⟩
  have hlo : 2 ^ L ≤ m := by rw [← hL]; exact Nat.log2_self_le (by omega)
  have hhi : m < 2 ^ (L + 1) := by rw [← hL]; exact Nat.lt_log2_self
  have hL30 : L < 30 := by
   rw [← hL]
   have h30 : m < 1073741824 := by omega
   exact (Nat.log2_lt (by omega)).2 (Nat.lt_of_lt_of_le h30 (by decide))
  have hlen := Tryz.bits_Len (m : Int) w (by omega) (by omega)
  rw [Int.toNat_natCast, bitLen_log (by omega) (Nat.lt_of_le_of_lt (show m ≤ 1000000000 by omega) (by decide)), hL] at hlen
  rw [hL] at hR
  have hp2 : 2 ^ (L + 1) = 2 * 2 ^ L := by rw [Nat.pow_succ]; omega
  obtain ⟨P, hP⟩ : ∃ P, 2 ^ L = P := ⟨_, rfl⟩
  have hPI : (2 : Int) ^ L = (P : Int) := by rw [← hP]; push_cast; rfl
  have hPI2 : (2 : Int) ^ (L + 1) = ((2 * P : Nat) : Int) := by rw [← hP, ← hp2]; push_cast; rfl
  rw [hp2, hP] at hR
  rw [hP] at hlo
  rw [hp2, hP] at hhi
  have s1 : IntKind.u64.wrap (2 ^ (L + 1)) = ((2 * P : Nat) : Int) := by rw [hPI2, IntWalk.u64_in _ (by omega)]
  have s2 : IntKind.i64.wrap (2 ^ L) = (P : Int) := by rw [hPI, IntWalk.i64_in _ (by omega)]
  have HLen := Lib.hid hlen
  have HR := Lib.hid hR
  clear hlen hR hPI hPI2 hp2 hP hL
  by_cases hm : m + 1 = 2 * P
  ·have hr := HR.out
   rw [if_pos hm] at hr
   have dm : ((m : Int) == 2 * (P : Int) - 1) = true := by rw [beq_iff_eq]; omega
   subst hr
   clear HR
   go_wp2_with fail
   refine HLen.out.mono ?_
   rintro e w1 ⟨rfl, rfl⟩
   go_wp2_with fail
   go_ret
   exact ⟨rfl, rfl⟩
  ·have hr := HR.out
   rw [if_neg hm] at hr
   have dm : ((m : Int) == 2 * (P : Int) - 1) = false := by rw [beq_eq_false_iff_ne]; omega
   have HR2 := Lib.hid hr
   clear HR hr
   go_wp2_with fail
   refine HLen.out.mono ?_
   rintro e w1 ⟨rfl, rfl⟩
   go_wp2_with fail
   go_roundw
   case rel => exact ⟨by first | rfl | trivial, m - (P - 1), f, by rw [show (m : Int) - ((P : Int) - 1) = ((m - (P - 1) : Nat) : Int) by omega], by omega, by omega, by omega, HR2.out⟩
   case measure => simp [intOf]; omega
theorem row_pos : ∀ (f m : Nat), 1 ≤ m → m ≤ f → 1 ≤ Sv.rowF f m ∧ Sv.rowF f m ≤ m
 | 0, m, h1, h2 => by omega
 | f + 1, m, h1, h2 => by
  rw [row_open]
  have hlo : 2 ^ Nat.log2 m ≤ m := Nat.log2_self_le (by omega)
  have hhi : m < 2 ^ (Nat.log2 m + 1) := Nat.lt_log2_self
  have hp : 0 < 2 ^ Nat.log2 m := Nat.pow_pos (by decide)
  rw [Nat.pow_succ] at hhi
  split
  ·omega
  ·rename_i hne
   rw [Nat.pow_succ] at hne
   have := row_pos f (m - (2 ^ Nat.log2 m - 1)) (by omega) (by omega)
   omega
set_option maxHeartbeats 1600000 in
theorem luby_times_any (b : Nat) (h1 : 1 ≤ b) (h2 : b ≤ 1000000000) (r : Int) (hr : 32 * (b : Int) = r) : Calls Tryz.prog 78 #[.int .i64 32, .int .i64 (b : Int)] w fun e w' => e = .returned (.int .i64 r) ∧ w = w' := by
 subst hr
 obtain ⟨q, hq⟩ : ∃ q, (9223372036854775807 : Int).tdiv (b : Int) = q := ⟨_, rfl⟩
 obtain ⟨q2, hq2⟩ : ∃ q, (9223372036854775807 : Int) / (b : Int) = q := ⟨_, rfl⟩
 have hqq : q = q2 := by rw [← hq, ← hq2, Int.tdiv_eq_ediv_of_nonneg (by decide)]
 have hlo : 1000 ≤ q2 := by
  rw [← hq2]
  exact (Int.le_ediv_iff_mul_le (by omega)).2 (by omega)
 have hup : q2 ≤ 9223372036854775807 := by rw [← hq2]; exact Int.ediv_le_self _ (by decide)
 have hw : wrap64 q2 = q2 := by rw [← IntWalk.i64_left]; exact IntWalk.i64_in _ (by omega)
 have d1 : decide (0 < b) = true := decide_eq_true (by omega)
 have d1' : decide ((0 : Int) < (b : Int)) = true := decide_eq_true (by omega)
 have d2 : decide (q < 32) = false := decide_eq_false (by omega)
 have d2' : decide (q2 < 32) = false := decide_eq_false (by omega)
 have e1 : IntKind.i64.wrap (32 * (b : Int)) = 32 * (b : Int) := by rw [IntWalk.i64_in _ (by omega)]
 have hb0 : (b : Int) ≠ 0 := by omega
 go_enter Tryz.func78, Tryz.ntmps78
 go_wp2_with fail
 go_ret
 exact ⟨rfl, rfl⟩
end
section
variable {w : World}
def PaceAt (w : World) (bp : Nat) (L t k : Int) : Prop := w.heap[bp]? = some (.cells #[cI 32, cI L, cI t, cI k] 105 (0, 0))
theorem PaceAt.set1 {bp : Nat} {L t k : Int} (h : PaceAt w bp L t k) (x : Int) : PaceAt (w.setCell ⟨bp, 1, none⟩ (.int .i64 x)) bp x t k := by unfold PaceAt; rw [set_block h]; rfl
theorem PaceAt.set2 {bp : Nat} {L t k : Int} (h : PaceAt w bp L t k) (x : Int) : PaceAt (w.setCell ⟨bp, 2, none⟩ (.int .i64 x)) bp L x k := by unfold PaceAt; rw [set_block h]; rfl
theorem PaceAt.set3 {bp : Nat} {L t k : Int} (h : PaceAt w bp L t k) (x : Int) : PaceAt (w.setCell ⟨bp, 3, none⟩ (.int .i64 x)) bp L t x := by unfold PaceAt; rw [set_block h]; rfl
theorem PaceAt.cells {bp : Nat} {L t k : Int} (h : PaceAt w bp L t k) : w.cell? ⟨bp, 0, none⟩ = some (.int .i64 32) ∧ w.cell? ⟨bp, 1, none⟩ = some (.int .i64 L) ∧ w.cell? ⟨bp, 2, none⟩ = some (.int .i64 t) ∧ w.cell? ⟨bp, 3, none⟩ = some (.int .i64 k) ∧ w.frozen? ⟨bp, 1, none⟩ = false ∧ w.frozen? ⟨bp, 2, none⟩ = false ∧ w.frozen? ⟨bp, 3, none⟩ = false :=
 ⟨by rw [cell_block h]; rfl, by rw [cell_block h]; rfl, by rw [cell_block h]; rfl, by rw [cell_block h]; rfl, free_block h _, free_block h _, free_block h _⟩
theorem PaceAt.only {bp : Nat} {L t k : Int} (h : PaceAt w bp L t k) {w' : World} {F : Nat → Prop} (ho : Only F w w') (hF : ¬ F bp) : PaceAt w' bp L t k := only_block h ho hF
def ConTo (w : World) (bp : Nat) (L t k : Int) (n : Nat) (e : Ending) (w' : World) : Prop :=
 ∃ L' t' k' anew fg, Sv.paceF L t k n = ((L', t', k'), anew, fg) ∧ e = .returned (.tuple #[.bool anew, .bool fg]) ∧ PaceAt w' bp L' t' k' ∧ Only (fun q => q = bp) w w'
set_option maxRecDepth 100000 in
set_option maxHeartbeats 1600000 in
theorem luby_Conflict_any {bp : Nat} {L t k : Int} (hb : PaceAt w bp L t k) (hL : 1 ≤ L ∧ L ≤ 1000000000000) (ht : 0 ≤ t ∧ t ≤ 100000000) (hk : 1 ≤ k ∧ k ≤ 9223372036854775807) (n : Nat) (hn : n ≤ 1099511627776) :
  Calls Tryz.prog 44 #[.pointer (some ⟨bp, 0, none⟩), .int .i64 (n : Int)] w (ConTo w bp L t k n) := by
 obtain ⟨L0, hL0⟩ : ∃ L0, L - 1 = L0 := ⟨_, rfl⟩
 have ew0 : IntKind.i64.wrap (L - 1) = L0 := by rw [hL0, IntWalk.i64_in _ (by omega)]
 obtain ⟨w1, hw1⟩ : ∃ w1, w.setCell ⟨bp, 1, none⟩ (.int .i64 L0) = w1 := ⟨_, rfl⟩
 have hb1 : PaceAt w1 bp L0 t k := by rw [← hw1]; exact hb.set1 L0
 have o1 : Only (fun q => q = bp) w w1 := by rw [← hw1]; exact (Only.refl (fun q => q = bp) w).setCell (p := ⟨bp, 1, none⟩) (.inl rfl) _
 obtain ⟨c0, c1, c2, c3, f1, f2, f3⟩ := hb.cells
 obtain ⟨a0, a1, a2, a3, g1, g2, g3⟩ := hb1.cells
 obtain ⟨L', hL'⟩ : ∃ L', (if L - 1 = 0 then 32 * (Sv.row (t + 2).toNat : Int) else L - 1) = L' := ⟨_, rfl⟩
 obtain ⟨t', ht'⟩ : ∃ t', (if L - 1 = 0 then t + 1 else t) = t' := ⟨_, rfl⟩
 obtain ⟨an, han⟩ : ∃ an, decide (L - 1 = 0) = an := ⟨_, rfl⟩
 have ean : (L0 == 0) = an := by
  rw [← han, ← hL0]
  by_cases h : L - 1 = 0
  ·rw [decide_eq_true h, h]; rfl
  ·rw [decide_eq_false h, beq_eq_false_iff_ne]; exact h
 have hpf : Sv.paceF L t k n = ((L', t', if k < (n : Int) then k + min (k / 2 + 1) (9223372036854775807 - k) else k), an, decide (k < (n : Int))) := by unfold Sv.paceF; rw [hL', ht', han]
 have HP := Lib.hid hpf
 have HL' := Lib.hid hL'
 have HT' := Lib.hid ht'
 have HAn := Lib.hid han
 have HB1 := Lib.hid hb1
 have HO1 := Lib.hid o1
 have HL0 := Lib.hid hL0
 obtain ⟨t1, ht1⟩ : ∃ t1, t + 1 = t1 := ⟨_, rfl⟩
 have ew1 : IntKind.i64.wrap (t + 1) = t1 := by rw [ht1, IntWalk.i64_in _ (by omega)]
 obtain ⟨w2, hw2⟩ : ∃ w2, w1.setCell ⟨bp, 2, none⟩ (.int .i64 t1) = w2 := ⟨_, rfl⟩
 have hb2 : PaceAt w2 bp L0 t1 k := by rw [← hw2]; exact hb1.set2 t1
 have o2 : Only (fun q => q = bp) w w2 := by rw [← hw2]; exact o1.setCell (p := ⟨bp, 2, none⟩) (.inl rfl) _
 obtain ⟨tt, htt⟩ : ∃ tt : Nat, (t + 2).toNat = tt := ⟨_, rfl⟩
 have ew2 : IntKind.i64.wrap (t1 + 1) = (tt : Int) := by rw [IntWalk.i64_in _ (by omega)]; omega
 obtain ⟨rr, hrr⟩ : ∃ rr, Sv.row tt = rr := ⟨_, rfl⟩
 have hrp := row_pos tt tt (by omega) (Nat.le_refl _)
 rw [show Sv.rowF tt tt = rr from hrr] at hrp
 have HRow := Lib.hid (fun W : World => luby_Row_any (w := W) tt (by omega) (by omega) (rr : Int) (by rw [hrr]))
 have HTim := Lib.hid (fun W : World => luby_times_any (w := W) rr hrp.1 (by omega) (32 * (rr : Int)) rfl)
 have HB2 := Lib.hid hb2
 have HO2 := Lib.hid o2
 have HRr := Lib.hid (And.intro htt hrr)
 have HT1 := Lib.hid ht1
 have b12 := hb2.cells
 have HC2 := Lib.hid b12
 clear hpf hL' ht' han hb1 o1 hb hL0 hb2 o2 htt hrr ht1 b12
 go_enter Tryz.func44, Tryz.ntmps44
 go_upto_if 22 with fail
 go_cut [] (fun wx => PaceAt wx bp L' t' k ∧ Only (fun q => q = bp) w wx)
 case first =>
  cases an with
  | false =>
   have hne : ¬ L - 1 = 0 := by have := HAn.out; simpa using this
   have h1 := HL'.out
   have h2 := HT'.out
   rw [if_neg hne] at h1 h2
   go_wp2_with fail
   go_meet
   refine ⟨?_, HO1.out⟩
   have hb := HB1.out
   rw [← h1, ← h2, HL0.out]
   exact hb
  | true =>
   have heq : L - 1 = 0 := by have := HAn.out; simpa using this
   have h1 := HL'.out
   have h2 := HT'.out
   rw [if_pos heq] at h1 h2
   have hfin : PaceAt (w2.setCell ⟨bp, 1, none⟩ (.int .i64 (32 * (rr : Int)))) bp L' t' k ∧ Only (fun q => q = bp) w (w2.setCell ⟨bp, 1, none⟩ (.int .i64 (32 * (rr : Int)))) := by
    refine ⟨?_, HO2.out.setCell (p := ⟨bp, 1, none⟩) (.inl rfl) _⟩
    have hb := HB2.out.set1 (32 * (rr : Int))
    rw [← h1, ← h2, HRr.out.1, HRr.out.2, HT1.out]
    exact hb
   have HFin := Lib.hid hfin
   clear h1 h2 hfin heq
   obtain ⟨e0, e1, e2, e3, q1, q2, q3⟩ := HC2.out
   go_wp2_with fail
   refine wp_region_G (n := 15) (E := fun i => i == 14) (S := fun w' => w'.cell? ⟨bp, 0, none⟩ = some (.int .i64 32) ∧ w'.cell? ⟨bp, 1, none⟩ = some (.int .i64 L0) ∧ w'.cell? ⟨bp, 2, none⟩ = some (.int .i64 t1) ∧ w'.frozen? ⟨bp, 1, none⟩ = false) (by kernel_rfl) rfl ⟨e0, e1, e2, q1⟩ (fun hHeld => ?_)
   refine tqW (i := 0) (v := ?_) rfl (.inr (by assumption)) ?_ ?_
   rotate_left
   ·(intro w; go_simp <;> (try with_reducible rfl))
   try simp only [Act.put, zq1, zq3, zq4, zq5, zq6]
   refine tqW (i := 1) (v := ?_) rfl (.inr (by assumption)) ?_ ?_
   rotate_left
   ·(intro w; go_simp <;> (try with_reducible rfl))
   try simp only [Act.put, zq1, zq2, zq3, zq4, zq5, zq6]
   refine tqW (i := 2) (v := ?_) rfl (.inr (by assumption)) ?_ ?_
   rotate_left
   ·(intro w; go_simp <;> (try with_reducible rfl))
   try simp only [Act.put, zq1, zq2, zq3, zq4, zq5, zq6]
   refine tqW (i := 3) (v := ?_) rfl (.inr (by assumption)) ?_ ?_
   rotate_left
   ·(intro w; go_simp <;> (try with_reducible rfl))
   try simp only [Act.put, zq1, zq2, zq3, zq4, zq5, zq6]
   refine tqK (i := 4) (v := ?_) rfl ?_ ?_
   rotate_left
   ·(intro w hSw; (try dsimp only at hSw); go_simp <;> (try with_reducible rfl))
   try simp only [Act.put, zq1, zq2, zq3, zq4, zq5, zq6]
   refine tqW (i := 5) (v := ?_) rfl (.inr (by assumption)) ?_ ?_
   rotate_left
   ·(intro w; go_simp <;> (try with_reducible rfl))
   try simp only [Act.put, zq1, zq2, zq3, zq4, zq5, zq6]
   refine tqW (i := 6) (v := ?_) rfl (.inr (by assumption)) ?_ ?_
   rotate_left
   ·(intro w; go_simp <;> (try with_reducible rfl))
   try simp only [Act.put, zq1, zq2, zq3, zq4, zq5, zq6]
   refine tqW (i := 7) (v := ?_) rfl (.inr (by assumption)) ?_ ?_
   rotate_left
   ·(intro w; go_simp <;> (try with_reducible rfl))
   try simp only [Act.put, zq1, zq2, zq3, zq4, zq5, zq6]
   refine tqK (i := 8) (v := ?_) rfl ?_ ?_
   rotate_left
   ·(intro w hSw; (try dsimp only at hSw); go_simp <;> (try with_reducible rfl))
   try simp only [Act.put, zq1, zq2, zq3, zq4, zq5, zq6]
   refine tqW (i := 9) (v := ?_) rfl (.inr (by assumption)) ?_ ?_
   rotate_left
   ·(intro w; go_simp <;> (try with_reducible rfl))
   try simp only [Act.put, zq1, zq2, zq3, zq4, zq5, zq6]
   refine wpAnyG_takeC (i := 10) (v := ?_) (f := 79) (args := #[.int .i64 (tt : Int)]) rfl (by kernel_rfl) (by kernel_rfl) (by kernel_rfl) rfl (by kernel_rfl) (by kernel_rfl) (fun _ _ _ h => h) (by assumption) (by rfl) ?_ ?_ ?_
   rotate_left
   ·(intro w; go_simp <;> (try with_reducible rfl))
   ·(intro w hSw; exact HRow.out w)
   try simp only [Act.put, zq1, zq2, zq3, zq4, zq5, zq6]
   refine wpAnyG_takeC (i := 11) (v := ?_) (f := 78) (args := #[.int .i64 32, .int .i64 (rr : Int)]) rfl (by kernel_rfl) (by kernel_rfl) (by kernel_rfl) rfl (by kernel_rfl) (by kernel_rfl) (fun _ _ _ h => h) (by assumption) (by rfl) ?_ ?_ ?_
   rotate_left
   ·(intro w; go_simp <;> (try with_reducible rfl))
   ·(intro w hSw; exact HTim.out w)
   try simp only [Act.put, zq1, zq2, zq3, zq4, zq5, zq6]
   refine tqW (i := 12) (v := ?_) rfl (.inr (by assumption)) ?_ ?_
   rotate_left
   ·(intro w; go_simp <;> (try with_reducible rfl))
   try simp only [Act.put, zq1, zq2, zq3, zq4, zq5, zq6]
   refine tqW (i := 13) (v := ?_) rfl (.inr (by assumption)) ?_ ?_
   rotate_left
   ·(intro w; go_simp <;> (try with_reducible rfl))
   try simp only [Act.put, zq1, zq2, zq3, zq4, zq5, zq6]
   refine wpAnyG_ready (rs := [14]) (by kernel_rfl) (by simp) ?_
   refine AllReadyG.late (i := 14) rfl (by kernel_rfl) (fun K hK => ?_) ?_
   ·(obtain ⟨s0, s1, s2, s3⟩ := hHeld; go_simp)
    refine hK.out _ _ ?_
    clear hK K
    try simp only [Act.put, zq1, zq2, zq3, zq4, zq5, zq6]
    refine wpAnyG_done (by kernel_rfl) ?_ _
    go_wp2_with fail
    go_meet
    exact ⟨HFin.out.1, HFin.out.2.drew⟩
   exact AllReadyG.nil
 case rest =>
 obtain ⟨hP, hO⟩ := hcut
 by_cases hf : k < (n : Int)
 ·have d1 : decide (k < (n : Int)) = true := decide_eq_true hf
  obtain ⟨h, hh⟩ : ∃ h, k / 2 = h := ⟨_, rfl⟩
  obtain ⟨m, hm⟩ : ∃ m, min (h + 1) (9223372036854775807 - k) = m := ⟨_, rfl⟩
  obtain ⟨k2, hk2⟩ : ∃ k2, k + m = k2 := ⟨_, rfl⟩
  have hres := HP.out
  rw [if_pos hf, decide_eq_true hf, hh, hm, hk2] at hres
  have HRes := Lib.hid hres
  have u1 : k.tdiv 2 = h := by rw [Int.tdiv_eq_ediv_of_nonneg (by omega)]; exact hh
  have u2 : IntKind.i64.wrap h = h := by rw [IntWalk.i64_in _ (by omega)]
  have u2' : wrap64 h = h := by rw [← IntWalk.i64_left]; exact u2
  have u3 : IntKind.i64.wrap (h + 1) = h + 1 := by rw [IntWalk.i64_in _ (by omega)]
  have u4 : IntKind.i64.wrap (9223372036854775807 - k) = 9223372036854775807 - k := by rw [IntWalk.i64_in _ (by omega)]
  have u5 : IntKind.i64.wrap (k + m) = k2 := by rw [hk2, IntWalk.i64_in _ (by omega)]
  have hfin : PaceAt (wc.setCell ⟨bp, 3, none⟩ (.int .i64 k2)) bp L' t' k2 ∧ Only (fun q => q = bp) w (wc.setCell ⟨bp, 3, none⟩ (.int .i64 k2)) := ⟨hP.set3 k2, hO.setCell (p := ⟨bp, 3, none⟩) (.inl rfl) _⟩
  have HFin := Lib.hid hfin
  obtain ⟨e0, e1, e2, e3, q1, q2, q3⟩ := hP.cells
  clear hres hfin hP hO hk2
  go_wp2_with fail
  refine wp_region_G (n := 20) (E := fun i => i == 19) (S := fun w' => w'.cell? ⟨bp, 3, none⟩ = some (.int .i64 k) ∧ w'.frozen? ⟨bp, 3, none⟩ = false) (by kernel_rfl) rfl ⟨e3, q3⟩ (fun hHeld => ?_)
  refine tqW (i := 0) (v := ?_) rfl (.inr (by assumption)) ?_ ?_
  rotate_left
  ·(intro w; go_simp <;> (try with_reducible rfl))
  try simp only [Act.put, zq1, zq3, zq4, zq5, zq6]
  refine tqW (i := 1) (v := ?_) rfl (.inr (by assumption)) ?_ ?_
  rotate_left
  ·(intro w; go_simp <;> (try with_reducible rfl))
  try simp only [Act.put, zq1, zq2, zq3, zq4, zq5, zq6]
  refine tqW (i := 2) (v := ?_) rfl (.inr (by assumption)) ?_ ?_
  rotate_left
  ·(intro w; go_simp <;> (try with_reducible rfl))
  try simp only [Act.put, zq1, zq2, zq3, zq4, zq5, zq6]
  refine tqK (i := 3) (v := ?_) rfl ?_ ?_
  rotate_left
  ·(intro w hSw; (try dsimp only at hSw); go_simp <;> (try with_reducible rfl))
  try simp only [Act.put, zq1, zq2, zq3, zq4, zq5, zq6]
  refine tqW (i := 4) (v := ?_) rfl (.inr (by assumption)) ?_ ?_
  rotate_left
  ·(intro w; go_simp <;> (try with_reducible rfl))
  try simp only [Act.put, zq1, zq2, zq3, zq4, zq5, zq6]
  refine tqW (i := 5) (v := ?_) rfl (.inr (by assumption)) ?_ ?_
  rotate_left
  ·(intro w; go_simp <;> (try with_reducible rfl))
  try simp only [Act.put, zq1, zq2, zq3, zq4, zq5, zq6]
  refine tqW (i := 6) (v := ?_) rfl (.inr (by assumption)) ?_ ?_
  rotate_left
  ·(intro w; go_simp <;> (try with_reducible rfl))
  try simp only [Act.put, zq1, zq2, zq3, zq4, zq5, zq6]
  refine tqK (i := 7) (v := ?_) rfl ?_ ?_
  rotate_left
  ·(intro w hSw; (try dsimp only at hSw); go_simp <;> (try with_reducible rfl))
  try simp only [Act.put, zq1, zq2, zq3, zq4, zq5, zq6]
  refine tqW (i := 8) (v := ?_) rfl (.inr (by assumption)) ?_ ?_
  rotate_left
  ·(intro w; go_simp <;> (try with_reducible rfl))
  try simp only [Act.put, zq1, zq2, zq3, zq4, zq5, zq6]
  refine tqW (i := 9) (v := ?_) rfl (.inr (by assumption)) ?_ ?_
  rotate_left
  ·(intro w; go_simp <;> (try with_reducible rfl))
  try simp only [Act.put, zq1, zq2, zq3, zq4, zq5, zq6]
  refine tqW (i := 10) (v := ?_) rfl (.inr (by assumption)) ?_ ?_
  rotate_left
  ·(intro w; go_simp <;> (try with_reducible rfl))
  try simp only [Act.put, zq1, zq2, zq3, zq4, zq5, zq6]
  refine tqW (i := 11) (v := ?_) rfl (.inr (by assumption)) ?_ ?_
  rotate_left
  ·(intro w; go_simp <;> (try with_reducible rfl))
  try simp only [Act.put, zq1, zq2, zq3, zq4, zq5, zq6]
  refine tqW (i := 12) (v := ?_) rfl (.inr (by assumption)) ?_ ?_
  rotate_left
  ·(intro w; go_simp <;> (try with_reducible rfl))
  try simp only [Act.put, zq1, zq2, zq3, zq4, zq5, zq6]
  refine tqK (i := 13) (v := ?_) rfl ?_ ?_
  rotate_left
  ·(intro w hSw; (try dsimp only at hSw); go_simp <;> (try with_reducible rfl))
  try simp only [Act.put, zq1, zq2, zq3, zq4, zq5, zq6]
  refine tqW (i := 14) (v := ?_) rfl (.inr (by assumption)) ?_ ?_
  rotate_left
  ·(intro w; go_simp <;> (try with_reducible rfl))
  try simp only [Act.put, zq1, zq2, zq3, zq4, zq5, zq6]
  refine tqW (i := 15) (v := ?_) rfl (.inr (by assumption)) ?_ ?_
  rotate_left
  ·(intro w; go_simp <;> (try with_reducible rfl))
  try simp only [Act.put, zq1, zq2, zq3, zq4, zq5, zq6]
  refine tqW (i := 16) (v := ?_) rfl (.inr (by assumption)) ?_ ?_
  rotate_left
  ·(intro w; go_simp <;> (try with_reducible rfl))
  try simp only [Act.put, zq1, zq2, zq3, zq4, zq5, zq6]
  refine tqW (i := 17) (v := ?_) rfl (.inr (by assumption)) ?_ ?_
  rotate_left
  ·(intro w; go_simp <;> (try with_reducible rfl))
  try simp only [Act.put, zq1, zq2, zq3, zq4, zq5, zq6]
  refine tqW (i := 18) (v := ?_) rfl (.inr (by assumption)) ?_ ?_
  rotate_left
  ·(intro w; go_simp <;> (try with_reducible rfl))
  try simp only [Act.put, zq1, zq2, zq3, zq4, zq5, zq6]
  refine wpAnyG_ready (rs := [19]) (by kernel_rfl) (by simp) ?_
  refine AllReadyG.late (i := 19) rfl (by kernel_rfl) (fun K hK => ?_) ?_
  ·(obtain ⟨s1, s2⟩ := hHeld; go_simp)
   refine hK.out _ _ ?_
   clear hK K
   try simp only [Act.put, zq1, zq2, zq3, zq4, zq5, zq6]
   refine wpAnyG_done (by kernel_rfl) ?_ _
   go_wp2_with fail
   go_ret2
   exact ⟨L', t', k2, an, true, HRes.out, rfl, HFin.out.1, HFin.out.2.drew⟩
  exact AllReadyG.nil
 ·have d1 : decide (k < (n : Int)) = false := decide_eq_false hf
  have hres := HP.out
  rw [if_neg hf, decide_eq_false hf] at hres
  have HRes := Lib.hid hres
  have HFin := Lib.hid (And.intro hP hO)
  obtain ⟨e0, e1, e2, e3, q1, q2, q3⟩ := hP.cells
  clear hres hP hO
  go_wp2_with fail
  go_ret2
  exact ⟨L', t', k, an, false, HRes.out, rfl, HFin.out.1, HFin.out.2⟩
theorem luby_New_any (w : World) : Calls Tryz.prog 36 #[.int .i64 32, .int .i64 300] w fun e w' => e = .returned (.pointer (some ⟨w.heap.size, 0, none⟩)) ∧ PaceAt w' w.heap.size 32 0 300 ∧ Only (fun _ => False) w w' := by
 have hfin : PaceAt (w.alloc (.cells #[cI 32, cI 32, cI 0, cI 300] 105)) w.heap.size 32 0 300 ∧ Only (fun _ => False) w (w.alloc (.cells #[cI 32, cI 32, cI 0, cI 300] 105)) := ⟨heap_alloc_new _ _, (Only.refl _ _).alloc _⟩
 have HFin := Lib.hid hfin
 clear hfin
 go_enter Tryz.func36, Tryz.ntmps36
 go_wp2_with fail
 go_ret
 exact ⟨rfl, HFin.out⟩
end
end Go.Proofs.YtjedgdamommgeaaGreat
namespace Go.Proofs.YtjedgdamommgeaaGreat
open Go.RowKit
open Tr
end Go.Proofs.YtjedgdamommgeaaGreat

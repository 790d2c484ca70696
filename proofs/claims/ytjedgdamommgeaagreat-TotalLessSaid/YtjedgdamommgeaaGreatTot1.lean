/- The walks of package total: Repeat; the count of a short row; law 23's fixed. -/
import Derived.Test.YtjedgdamommgeaaGreatBld1
import Derived.Test.YtjedgdamommgeaaGreatAtoms4
set_option linter.unusedVariables false
namespace Go.Proofs.YtjedgdamommgeaaGreat
open Go.RowKit
namespace Tot
end Tot
section
variable {w : World}
theorem count_short {b : Nat} {v : Value} {xs : List Int} (hI : Ints w v xs) (hs : xs.length < 2) :
  Calls Tryz.prog 54 #[.pointer (some ⟨b, 0, none⟩), v] w fun e w' => ∃ v', e = .returned v' ∧ Ints w' v' xs ∧ Only (fun _ => False) w w' := by
 have hC := Clone_any hI (by omega)
 have hr := hI.range
 obtain ⟨ao, cap, rfl, _, _⟩ := hI.shape
 have HC := Lib.hid hC
 clear hC
 have d1 : decide (xs.length < 2) = true := decide_eq_true hs
 go_enter Tryz.func54, Tryz.ntmps54
 go_wp2_with fail
 refine HC.out.mono ?_
 rintro e w2 ⟨vf, rfl, R1, N1, O2⟩
 have hIf := Ints.of_own R1 hr
 clear R1 N1
 go_wp2_with fail
 go_ret
 exact ⟨_, rfl, hIf, O2⟩
theorem Contains_any {v : Value} {xs : List Int} (hI : Ints w v xs) (x : Int) (r : Bool) (hr : xs.contains x = r) :
  Calls Tryz.prog 53 #[v, .int .i64 x] w fun e w' => e = .returned (.bool r) ∧ w' = w := by
 subst hr
 obtain ⟨ao, cap, rfl, _, _⟩ := hI.shape
 by_cases h0 : xs.length = 0
 ·have hx : xs = [] := List.eq_nil_of_length_eq_zero h0
  subst hx
  exact Tryz.slices_Contains_int_empty ao cap x w
 ·obtain ⟨b, o, rfl, _, c⟩ := hI.cells _ _ _ rfl (by omega)
  have := Tryz.slices_Contains_int b o xs.length cap xs x w (Nat.le_refl _) (by omega) c
  rwa [List.take_of_length_le (Nat.le_refl _)] at this
theorem Count_of {bt bb : Nat} {v : Value} {xs : List Int} (hI : Ints w v xs) (cap : Int) (h1 : 1 ≤ cap) (h2 : cap ≤ 9223372036854775807) (h0 : xs.contains 0 = false) (R : Value → World → Prop)
  (h : Calls Tryz.prog 54 #[.pointer (some ⟨w.heap.size, 0, none⟩), v] (w.alloc (.cells #[.pointer (some ⟨bt, 0, none⟩), .pointer (some ⟨bb, 0, none⟩), .int .i64 cap] 90)) fun e w' => ∃ v', e = .returned v' ∧ R v' w') :
  Calls Tryz.prog 23 #[.pointer (some ⟨bt, 0, none⟩), .pointer (some ⟨bb, 0, none⟩), v, .int .i64 cap] w fun e w' => ∃ v', e = .returned v' ∧ R v' w' := by
 have hC := Contains_any hI 0 false h0
 obtain ⟨ao, cc, rfl, _, _⟩ := hI.shape
 have HC := Lib.hid hC
 have HQ := Lib.hid h
 clear hC h
 go_enter Tryz.func23, Tryz.ntmps23
 go_wp2_with fail
 refine HC.out.mono ?_
 rintro e w2 ⟨rfl, rfl⟩
 go_wp2_with fail
 refine HQ.out.mono ?_
 rintro e w3 ⟨v', rfl, hq⟩
 have HQ2 := Lib.hid hq
 clear hq HQ
 go_wp2_with fail
 go_ret
 exact ⟨_, rfl, HQ2.out⟩
set_option maxHeartbeats 1600000 in
theorem law23_fixed : Calls Tryz.prog 18 #[] w fun e w' => e = .returned (.bool true) ∧ Only (fun _ => False) w w' := by
 have hN := atomsNew_any w 9 (by simp [InI64]) 9 (by decide)
 have HN := Lib.hid hN
 clear hN
 go_enter Tryz.func18, Tryz.ntmps18
 go_wp2_with fail
 refine HN.out.mono ?_
 rintro e w1 ⟨bt, gt, Vt, rfl, hT, hTm, O1⟩
 have hN2 := cnfNew_any w1
 have HN2 := Lib.hid hN2
 clear hN2 HN
 go_wp2_with fail
 refine HN2.out.mono ?_
 rintro e w2 ⟨bb, gb, Vb, rfl, hB, hBm, O2⟩
 have hT2 := hT.only0 O2
 have hH := Help_any hT2 0 (Nat.le_refl _) (by intro j _ h; omega) (by simp) (by omega) 1 (by simp [Tab.num])
 have HH := Lib.hid hH
 clear hH HN2
 go_wp2_with fail
 refine HH.out.mono ?_
 rintro e w3 ⟨rfl, gt3, Vt3, hT3, A3, O3⟩
 have hdis : ∀ k, (gb k).1 ≠ 0 → ¬ Mine gt k := by
  intro k hk hm
  have h1 := hBm k hk
  have h2 := hT.fresh k h1
  exact hm h2
 have hB3 := hB.only O3 hdis
 have hO3 : Only (fun _ => False) w w3 := (O1.same O2).trans O3 (fun k hk => .inr (hTm k hk))
 clear HH hT hT2 hB hdis O3 O1 O2
 have hI := fun W : World => Ints.of_own (w := W.alloc (.cells #[.int .i64 1] 3)) (v := .slice (some ⟨W.heap.size, 0, none⟩) 1 1) (xs := [1]) (World.ownsRow_lit (base := 0) (e := 3) (size := 1) W #[.int .i64 1] 1 (Nat.zero_le _) (by unfold maxLen; omega) (by simp)) (by simp [InI64])
 have hcount := fun W : World => Count_of (bt := bt) (bb := bb) (hI W) 5 (by decide) (by decide) (by decide) (fun v' w' => Ints w' v' [1] ∧ Only (fun _ => False) (W.alloc (.cells #[.int .i64 1] 3)) w')
  ((count_short ((hI W).only0 ((Only.refl _ _).alloc _)) (by simp)).mono fun e w' ⟨v', he, h1, h2⟩ => ⟨v', he, h1, ((Only.refl _ _).alloc _).same h2⟩)
 have HC := Lib.hid hcount
 clear hcount hI
 go_wp2_with fail
 refine (HC.out w3).mono ?_
 rintro e w4 ⟨v4, rfl, I4, O4⟩
 have hO4 : Only (fun _ => False) w w4 := (hO3.alloc _).same O4
 have hB4 := hB3.only0 (((Only.refl _ _).alloc _).same O4)
 obtain ⟨a4, c4, rfl, _, _⟩ := I4.shape
 obtain ⟨b4, o4, rfl, _, hc4⟩ := I4.cells _ _ _ rfl (by simp)
 have q4 := hc4 0 (by simp)
 have hCl := Clauses_any hB4
 have HCl := Lib.hid hCl
 clear hCl HC hB3 O4
 simp only [List.length_singleton, Nat.add_zero, List.getD_cons_zero] at q4 ⊢
 go_wp2_with fail
 refine HCl.out.mono ?_
 rintro e w5 ⟨v5, us, rfl, S5, O5⟩
 obtain ⟨a5, c5, rfl, _, _⟩ := own_slice S5.row
 have hl : us.length = 0 := S5.ints.1
 have hO5 := hO4.same O5
 rw [hl]
 clear HCl S5 O5 hl
 go_wp2_with fail
 go_ret
 exact ⟨rfl, hO5⟩
end
end Go.Proofs.YtjedgdamommgeaaGreat

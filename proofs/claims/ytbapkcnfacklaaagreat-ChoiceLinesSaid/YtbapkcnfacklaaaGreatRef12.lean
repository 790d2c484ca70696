/- The walks of cooperref12: None, Atom, Same. -/
import Derived.Test.YtbapkcnfacklaaaGreatBase
import Derived.Test.YtbapkcnfacklaaaGreatCnfA
set_option linter.unusedVariables false
namespace Go.Proofs.YtbapkcnfacklaaaGreat
open Go.RowKit
section
variable {w : World}
theorem None_any (x : Int) (hx : InI64 x) (r : Bool) (hr : Cnf.wr x = r) : Calls Tryz.prog 69 #[.int .i64 x] w fun e w' => e = .returned (.bool r) ∧ w = w' := by
 subst hr
 unfold Cnf.wr
 obtain ⟨h1, h2⟩ := hx
 by_cases h0 : x = 0
 ·subst h0
  go_enter Tryz.func69, Tryz.ntmps69
  go_wp2
  go_ret
  exact ⟨rfl, rfl⟩
 ·have k0 : (x == 0) = false := beq_eq_false_iff_ne.2 h0
  have key : (x == IntKind.i64.wrap (-x)) = (x == Cnf.minI) := by
   rw [Bool.eq_iff_iff, beq_iff_eq, beq_iff_eq, IntKind.wrap_i64]
   unfold Cnf.minI
   omega
  rw [k0]
  generalize hnx : IntKind.i64.wrap (-x) = nx at *
  cases hm : (x == Cnf.minI)
  all_goals
   rw [hm] at key
   clear hm h0 h1 h2
   go_enter Tryz.func69, Tryz.ntmps69
   go_wp2
   go_ret
   exact ⟨rfl, rfl⟩
theorem Atom_any (x : Int) (hx : InI64 x) (hw : Cnf.wr x = false) : Calls Tryz.prog 70 #[.int .i64 x] w fun e w' => e = .returned (.int .i64 (x.natAbs : Int)) ∧ w = w' := by
 obtain ⟨h1, h2⟩ := hx
 have hne : x ≠ -9223372036854775808 := by
  intro e
  rw [e] at hw
  revert hw
  decide
 have hw' : -9223372036854775807 ≤ x := by omega
 clear hw hne h1
 by_cases h0 : x < 0
 ·have e : ((x.natAbs : Nat) : Int) = -x := by omega
  rw [e]
  go_enter Tryz.func70, Tryz.ntmps70
  go_wp2
  go_ret
  exact ⟨rfl, rfl⟩
 ·have e : ((x.natAbs : Nat) : Int) = x := by omega
  rw [e]
  clear e
  go_enter Tryz.func70, Tryz.ntmps70
  go_wp2
  go_ret
  exact ⟨rfl, rfl⟩
set_option maxHeartbeats 800000 in
theorem Same_any {va vb : Value} {xs ys : List Int} (ha : Ints w va xs) (hb : Ints w vb ys) : Calls Tryz.prog 25 #[va, vb] w fun e w' => e = .returned (.bool (xs == ys)) ∧ Only (fun _ => False) w w' := by
 obtain ⟨ao, ca, rfl, ha1, ha2⟩ := ha.shape
 obtain ⟨bo, cb, rfl, hb1, hb2⟩ := hb.shape
 by_cases hl : xs.length = ys.length
 ·have k1 : ((xs.length : Int) != (ys.length : Int)) = false := by simp [hl]
  have HL := Lib.hid hl
  clear hl
  go_enter Tryz.func25, Tryz.ntmps25
  go_wp2
  go_loopw [13] (fun v wr => ∃ k : Nat, v = .int .i64 k ∧ k ≤ xs.length ∧ (∀ j, j < k → xs.getD j 0 = ys.getD j 0) ∧ Only (fun _ => False) w wr) (fun v _ => xs.length - (intOf v).toNat)
  case atStart => exact ⟨0, rfl, Nat.zero_le _, fun j hj => by omega, Only.refl _ _⟩
  case round =>
   obtain ⟨k, rfl, hk, hE, hO⟩ := hrel
   have HE := Lib.hid hE
   clear hE
   by_cases c : k < xs.length
   ·obtain ⟨b1, o1, rfl, _, c1⟩ := (ha.only0 hO).cells _ _ _ rfl (by omega)
    obtain ⟨b2, o2, rfl, _, c2⟩ := (hb.only0 hO).cells _ _ _ rfl (by have := HL.out; omega)
    have q1 := c1 k c
    have q2 := c2 k (by have := HL.out; omega)
    have e1 : (k : Int) < (xs.length : Int) := by omega
    have e2 : (k : Int) < (ys.length : Int) := by have := HL.out; omega
    clear c1 c2
    generalize hx : xs.getD k 0 = x at *
    generalize hy : ys.getD k 0 = y at *
    have HX := Lib.hid hx
    have HY := Lib.hid hy
    clear hx hy
    cases hc : (x != y)
    ·have hxy : x = y := by simpa using hc
     have HXY := Lib.hid hxy
     clear hxy
     go_wp2_with fail
     go_quiet (fail)
     go_wp2_with fail
     go_roundw
     case rel =>
      refine ⟨k + 1, by go_num, by omega, fun j hj => ?_, hO.drewN _⟩
      rcases Nat.lt_or_ge j k with h1 | h1
      ·exact HE.out j h1
      ·rw [show j = k by omega, HX.out, HY.out, HXY.out]
     case measure => simp [intOf]; omega
    ·have hne : (xs == ys) = false := beq_eq_false_iff_ne.2 (fun e => by
      have h1 := HX.out
      rw [e, HY.out] at h1
      rw [h1] at hc
      simp at hc)
     have HNE := Lib.hid hne
     clear hne
     go_wp2_with fail
     go_quiet (fail)
     go_wp2_with fail
     go_ret
     rw [HNE.out]
     exact ⟨rfl, hO.drewN _⟩
   ·have heq : (xs == ys) = true := by
     rw [beq_iff_eq]
     apply List.ext_getElem HL.out
     intro i h1 h2
     have := HE.out i (by omega)
     simpa [List.getD_eq_getElem?_getD, h1, h2] using this
    have HEQ := Lib.hid heq
    clear heq
    go_wp2_with fail
    go_ret
    rw [HEQ.out]
    exact ⟨rfl, hO⟩
 ·have k1 : ((xs.length : Int) != (ys.length : Int)) = true := bne_iff_ne.2 (by omega)
  have hne : (xs == ys) = false := beq_eq_false_iff_ne.2 (fun e => hl (by rw [e]))
  rw [hne]
  clear hl hne
  go_enter Tryz.func25, Tryz.ntmps25
  go_wp2
  go_ret
  exact ⟨rfl, Only.refl _ _⟩
end
end Go.Proofs.YtbapkcnfacklaaaGreat

/- The walks of cooperref12: None, Atom, Same. -/
import Derived.Test.YtbapkcnfacklaaaGreatBase
import Derived.Test.YtbapkcnfacklaaaGreatCnfA
set_option linter.unusedVariables false
namespace Go.Proofs.YtbapkcnfacklaaaGreat
open Go.RowKit
section
variable {w : World}
set_option maxHeartbeats 800000 in
theorem Same_any {va vb : Value} {xs ys : List Int} (ha : Ints w va xs) (hb : Ints w vb ys) : Calls Tryz.prog 25 #[va, vb] w fun e w' => e = .returned (.bool (xs == ys)) ∧ Only (fun _ => False) w w' := by
 obtain ⟨ao, ca, rfl, ha1, ha2⟩ := ha.shape
 obtain ⟨bo, cb, rfl, hb1, hb2⟩ := hb.shape
 by_cases hl : xs.length = ys.length
 ·have k1 : ((xs.length : Int) != (ys.length : Int)) = false := by simp [hl]
  have HL := Lib.hid hl
  clear hl
  go_enter Tryz.func25, Tryz.ntmps25
  go_wp2
  go_loopw [13] (fun v wr => ∃ k : Nat, v = .int .i64 k ∧ k ≤ xs.length ∧ (∀ j, j < k → xs.getD j 0 = ys.getD j 0) ∧ Only (fun _ => False) w wr) (fun v _ => xs.length - (intOf v).toNat)
  case atStart => exact ⟨0, rfl, Nat.zero_le _, fun j hj => by omega, Only.refl _ _⟩
  case round =>
   obtain ⟨k, rfl, hk, hE, hO⟩ := hrel
   have HE := Lib.hid hE
   clear hE
   by_cases c : k < xs.length
   ·obtain ⟨b1, o1, rfl, _, c1⟩ := (ha.only0 hO).cells _ _ _ rfl (by omega)
    obtain ⟨b2, o2, rfl, _, c2⟩ := (hb.only0 hO).cells _ _ _ rfl (by have := HL.out; omega)
    have q1 := c1 k c
    have q2 := c2 k (by have := HL.out; omega)
    have e1 : (k : Int) < (xs.length : Int) := by omega
    have e2 : (k : Int) < (ys.length : Int) := by have := HL.out; omega
    clear c1 c2
    generalize hx : xs.getD k 0 = x at *
    generalize hy : ys.getD k 0 = y at *
    have HX := Lib.hid hx
    have HY := Lib.hid hy
    clear hx hy
    cases hc : (x != y)
    ·have hxy : x = y := by simpa using hc
     have HXY := Lib.hid hxy
     clear hxy
     go_wp2_with fail
     go_quiet (fail)
     go_wp2_with fail
     go_roundw
     case rel =>
      refine ⟨k + 1, by go_num, by omega, fun j hj => ?_, hO.drewN _⟩
      rcases Nat.lt_or_ge j k with h1 | h1
      ·exact HE.out j h1
      ·rw [show j = k by omega, HX.out, HY.out, HXY.out]
     case measure => simp [intOf]; omega
    ·have hne : (xs == ys) = false := beq_eq_false_iff_ne.2 (fun e => by
      have h1 := HX.out
      rw [e, HY.out] at h1
      rw [h1] at hc
      simp at hc)
     have HNE := Lib.hid hne
     clear hne
     go_wp2_with fail
     go_quiet (fail)
     go_wp2_with fail
     go_ret
     rw [HNE.out]
     exact ⟨rfl, hO.drewN _⟩
   ·have heq : (xs == ys) = true := by
     rw [beq_iff_eq]
     apply List.ext_getElem HL.out
     intro i h1 h2
     have := HE.out i (by omega)
     simpa [List.getD_eq_getElem?_getD, h1, h2] using this
    have HEQ := Lib.hid heq
    clear heq
    go_wp2_with fail
    go_ret
    rw [HEQ.out]
    exact ⟨rfl, hO⟩
 ·have k1 : ((xs.length : Int) != (ys.length : Int)) = true := bne_iff_ne.2 (by omega)
  have hne : (xs == ys) = false := beq_eq_false_iff_ne.2 (fun e => hl (by rw [e]))
  rw [hne]
  clear hl hne
  go_enter Tryz.func25, Tryz.ntmps25
  go_wp2
  go_ret
  exact ⟨rfl, Only.refl _ _⟩
end
end Go.Proofs.YtbapkcnfacklaaaGreat

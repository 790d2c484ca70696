/- The walks of cooperlaw22: great, fixed. -/
import Derived.Test.YtjedgdamommgeaaGreatRupLaw
set_option linter.unusedVariables false
namespace Go.Proofs.YtjedgdamommgeaaGreat
open Go.RowKit
def greatB (css : List (List Int)) (ps : List (Bool × List Int)) : Bool := decide (80 < css.length) || decide (60 < ps.length) || css.any (fun c => decide (12 < c.length)) || ps.any (fun p => decide (12 < p.2.length))
section
variable {w : World}
theorem StepsAt.nil (w : World) : StepsAt w nilS [] := ⟨⟨none, 0, rfl, Nat.le_refl _, by decide⟩, fun _ _ _ _ h => by simp at h⟩
theorem any_drop {α : Type} (p : α → Bool) {c : List α} {k : Nat} (d : α) (h : k < c.length) : (c.drop k).any p = (p (c.getD k d) || (c.drop (k + 1)).any p) := by
 rw [List.drop_eq_getElem_cons h, List.any_cons]
 have e : c.getD k d = c[k] := by simp [List.getD_eq_getElem?_getD, h]
 rw [e]
set_option maxHeartbeats 1600000 in
theorem great_any {vcs vps : Value} {css : List (List Int)} {ps : List (Bool × List Int)} (hI : IntsS w vcs css) (hS : StepsAt w vps ps) (r : Bool) (hr : greatB css ps = r) :
  Calls Tryz.prog 29 #[vcs, vps] w fun e w' => e = .returned (.bool r) ∧ Only (fun _ => False) w w' := by
 subst hr
 obtain ⟨ac, cc, rfl, hc1, hc2⟩ := hI.shape
 obtain ⟨as_, cs, rfl, hs1, hs2⟩ := hS.shape
 have hg : greatB css ps = (decide (80 < css.length) || decide (60 < ps.length) || css.any (fun c => decide (12 < c.length)) || ps.any (fun p => decide (12 < p.2.length))) := rfl
 generalize greatB css ps = R at *
 by_cases h1 : 80 < css.length
 ·have hR : R = true := by rw [hg]; simp [h1]
  subst hR
  have d1 : decide ((80 : Int) < (css.length : Int)) = true := decide_eq_true (by omega)
  have d2 : decide ((css.length : Int) > 80) = true := decide_eq_true (by omega)
  clear hg
  go_enter Tryz.func29, Tryz.ntmps29
  go_wp2_with fail
  go_ret
  exact ⟨rfl, Only.refl _ _⟩
 ·have d1 : decide ((80 : Int) < (css.length : Int)) = false := decide_eq_false (by omega)
  by_cases h2 : 60 < ps.length
  ·have hR : R = true := by rw [hg]; simp [h2]
   subst hR
   have d3 : decide ((60 : Int) < (ps.length : Int)) = true := decide_eq_true (by omega)
   clear hg
   go_enter Tryz.func29, Tryz.ntmps29
   go_wp2_with fail
   go_ret
   exact ⟨rfl, Only.refl _ _⟩
  ·have d3 : decide ((60 : Int) < (ps.length : Int)) = false := decide_eq_false (by omega)
   have hg2 : R = ((css.drop 0).any (fun c => decide (12 < c.length)) || ps.any (fun p => decide (12 < p.2.length))) := by rw [hg]; simp [h1, h2]
   have HG := Lib.hid hg2
   clear hg hg2
   go_enter Tryz.func29, Tryz.ntmps29
   go_wp2_with fail
   go_loop [19] (fun v => ∃ k : Nat, v = .int .i64 k ∧ k ≤ css.length ∧ R = ((css.drop k).any (fun c => decide (12 < c.length)) || ps.any (fun p => decide (12 < p.2.length)))) (fun v => css.length - (intOf v).toNat)
   case atStart => exact ⟨0, rfl, Nat.zero_le _, HG.out⟩
   case round =>
    obtain ⟨k, rfl, hk, hR⟩ := hrel
    by_cases ck : k < css.length
    ·obtain ⟨b, off, u, rfl, _, q, hu⟩ := hI.at ck
     obtain ⟨au, cu, rfl, hu1, hu2⟩ := hu.shape
     rw [any_drop _ [] ck] at hR
     have HR := Lib.hid hR
     clear hR hu
     generalize css.getD k [] = c at *
     by_cases hl : 12 < c.length
     ·have d4 : decide ((12 : Int) < (c.length : Int)) = true := decide_eq_true (by omega)
      have hRt : R = true := by rw [HR.out]; simp [hl]
      have HRt := Lib.hid hRt
      clear hRt
      go_wp2_with fail
      go_ret
      rw [HRt.out]
      exact ⟨rfl, Only.refl _ _⟩
     ·have d4 : decide ((12 : Int) < (c.length : Int)) = false := decide_eq_false (by omega)
      go_wp2_with fail
      go_round
      case rel => exact ⟨k + 1, by go_num, by omega, by rw [HR.out]; simp [hl]⟩
      case measure => simp [intOf]; omega
    ·have hk' : k = css.length := by omega
     have hR2 : R = ((ps.drop 0).any (fun p => decide (12 < p.2.length))) := by
      rw [hR, hk', List.drop_length]; simp
     have HR2 := Lib.hid hR2
     clear hR hR2
     go_wp2_with fail
     go_loopw [29] (fun v wr => ∃ k : Nat, v = .int .i64 k ∧ k ≤ ps.length ∧ R = ((ps.drop k).any (fun p => decide (12 < p.2.length))) ∧ Only (fun _ => False) w wr) (fun v _ => ps.length - (intOf v).toNat)
     case atStart => exact ⟨0, rfl, Nat.zero_le _, HR2.out, Only.refl _ _⟩
     case round =>
      clear hk' HR2
      obtain ⟨k, rfl, hk, hR, hO⟩ := hrel
      by_cases ck : k < ps.length
      ·obtain ⟨b, off, us, rfl, _, hcs⟩ := (hS.only0 hO).cells _ _ _ rfl (by omega)
       obtain ⟨q1, q2, hu⟩ := hcs k ck
       obtain ⟨au, cu, hue, hu1, hu2⟩ := hu.shape
       rw [hue] at q2
       rw [any_drop _ (false, []) ck] at hR
       have HR := Lib.hid hR
       clear hR hu hue hcs
       generalize ps.getD k (false, []) = p at *
       by_cases hl : 12 < p.2.length
       ·have d4 : decide ((12 : Int) < (p.2.length : Int)) = true := decide_eq_true (by omega)
        have hRt : R = true := by rw [HR.out]; simp [hl]
        have HRt := Lib.hid hRt
        clear hRt
        go_wp2_with fail
        go_ret
        rw [HRt.out]
        exact ⟨rfl, hO.alloc _⟩
       ·have d4 : decide ((12 : Int) < (p.2.length : Int)) = false := decide_eq_false (by omega)
        go_wp2_with fail
        go_roundw
        case rel => exact ⟨k + 1, by go_num, by omega, by rw [HR.out]; simp [hl], hO.alloc _⟩
        case measure => simp [intOf]; omega
      ·have hRf : R = false := by rw [hR, List.drop_of_length_le (by omega)]; rfl
       have HRf := Lib.hid hRf
       clear hRf hR
       go_wp2_with fail
       go_ret
       rw [HRf.out]
       exact ⟨rfl, hO⟩
end
end Go.Proofs.YtjedgdamommgeaaGreat

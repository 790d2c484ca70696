/- The walk of cooperref18.Right. -/
import Derived.Test.YtjbfgafkjejdjaaRef18
namespace Go.Proofs.Ytjbfgafkjejdjaa
open Go.RowKit

namespace Cnf
/-- may a clause be, over so many atoms? -/
def okAt (k x : Int) : Bool := !wr x && decide ((x.natAbs : Int) ≤ k)
def right (k : Int) (c : List Int) : Bool := c.all (okAt k) && (form c).isSome

theorem all_drop {α : Type} (p : α → Bool) {c : List α} {k : Nat} (d : α) (h : k < c.length) : (c.drop k).all p = (p (c.getD k d) && (c.drop (k + 1)).all p) := by
  rw [List.drop_eq_getElem_cons h, List.all_cons]
  have e : c.getD k d = c[k] := by simp [List.getD_eq_getElem?_getD, h]
  rw [e]
end Cnf

section
variable {w : World}

set_option maxHeartbeats 1600000 in
theorem Right_any {v : Value} {c : List Int} (hI : Ints w v c) (hb : c.length ≤ 1099511627) (n : Int) (r : Bool) (hr : Cnf.right n c = r) :
    Calls Try.prog 30 #[v, .int .i64 n] w fun e w' => e = .returned (.bool r) ∧ Only (fun _ => False) w w' := by
  obtain ⟨ao, cap, rfl, hl, hm⟩ := hI.shape
  have HR := Lib.hid hr
  clear hr
  go_enter Try.func30, Try.ntmps30
  go_wp2_with fail
  go_loopw [10] (fun v wr => ∃ k : Nat, v = .int .i64 k ∧ k ≤ c.length ∧ c.all (Cnf.okAt n) = (c.drop k).all (Cnf.okAt n) ∧ Only (fun _ => False) w wr) (fun v _ => c.length - (intOf v).toNat)
  case atStart => exact ⟨0, rfl, Nat.zero_le _, rfl, Only.refl _ _⟩
  case round =>
    obtain ⟨k, rfl, hk, hV, hO⟩ := hrel
    have HO := Lib.hid hO
    by_cases ck : k < c.length
    · obtain ⟨b, off, rfl, _, hcs⟩ := (hI.only0 hO).cells _ _ _ rfl (by omega)
      have q := hcs k ck
      have hx := hI.range' k
      rw [Cnf.all_drop _ 0 ck] at hV
      clear hcs hO
      have HV := Lib.hid hV
      clear hV
      generalize c.getD k 0 = x at *
      have HX := Lib.hid hx
      clear hx
      cases hw : Cnf.wr x
      · have HW := Lib.hid hw
        clear hw
        by_cases hle : (x.natAbs : Int) ≤ n
        · have g1 : decide ((x.natAbs : Int) > n) = false := decide_eq_false (by omega)
          have g2 : decide (n < (x.natAbs : Int)) = false := decide_eq_false (by omega)
          have HLE := Lib.hid hle
          clear hle
          go_wp2_with fail
          refine (None_any x HX.out false HW.out).mono ?_
          rintro e w' ⟨rfl, rfl⟩
          go_wp2_with fail
          refine (Atom_any x HX.out HW.out).mono ?_
          rintro e w' ⟨rfl, rfl⟩
          go_wp2_with fail
          go_roundw
          case rel => exact ⟨k + 1, by go_num, by omega, by rw [HV.out]; simp [Cnf.okAt, HW.out, HLE.out], HO.out⟩
          case measure => simp [intOf]; omega
        · have g1 : decide ((x.natAbs : Int) > n) = true := decide_eq_true (by omega)
          have g2 : decide (n < (x.natAbs : Int)) = true := decide_eq_true (by omega)
          have HLE := Lib.hid hle
          clear hle
          go_wp2_with fail
          refine (None_any x HX.out false HW.out).mono ?_
          rintro e w' ⟨rfl, rfl⟩
          go_wp2_with fail
          refine (Atom_any x HX.out HW.out).mono ?_
          rintro e w' ⟨rfl, rfl⟩
          go_wp2_with fail
          go_ret
          refine ⟨?_, HO.out⟩
          have h0 : Cnf.okAt n x = false := by
            have := HLE.out
            simp [Cnf.okAt]; intro _; omega
          rw [← HR.out, Cnf.right, HV.out, h0]
          rfl
      · have HW := Lib.hid hw
        clear hw
        go_wp2_with fail
        refine (None_any x HX.out true HW.out).mono ?_
        rintro e w' ⟨rfl, rfl⟩
        go_wp2_with fail
        go_ret
        refine ⟨?_, HO.out⟩
        rw [← HR.out, Cnf.right, HV.out]
        simp [Cnf.okAt, HW.out]
    · have hk' : k = c.length := by omega
      subst hk'
      have hcon := RForm_any (hI.only0 hO) hb
      have HC := Lib.hid hcon
      have HV := Lib.hid hV
      clear hV hcon hO
      go_wp2_with fail
      refine HC.out.mono ?_
      intro e w' hpost
      unfold RFormPost at hpost
      cases hf : Cnf.form c with
      | none =>
        rw [hf] at hpost
        obtain ⟨vf, rfl, -, -, O2⟩ := hpost
        have HF := Lib.hid hf
        clear hf
        go_wp2_with fail
        go_ret
        refine ⟨?_, HO.out.same O2⟩
        rw [← HR.out, Cnf.right, HF.out]
        simp
      | some lf =>
        rw [hf] at hpost
        obtain ⟨vf, rfl, -, -, O2⟩ := hpost
        have HF := Lib.hid hf
        clear hf
        go_wp2_with fail
        go_ret
        refine ⟨?_, HO.out.same O2⟩
        rw [← HR.out, Cnf.right, HF.out, HV.out]
        simp

end
end Go.Proofs.Ytjbfgafkjejdjaa

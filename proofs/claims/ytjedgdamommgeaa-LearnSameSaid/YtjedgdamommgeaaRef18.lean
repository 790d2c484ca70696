/- The walks of cooperref18: Value, Follows, Right. -/
import Derived.Test.YtjedgdamommgeaaCnfA
import Derived.Test.YtjedgdamommgeaaBase
import Derived.Deep.CutBlock
import Derived.Deep.DeepCutAuto
import Derived.Test.YtjedgdamommgeaaUpA
set_option linter.unusedVariables false
namespace Go.Proofs.Ytjedgdamommgeaa
open Go.RowKit

section
variable {w : World}

set_option maxHeartbeats 800000 in
theorem Value_any {v : Value} {l : List Int} (hI : Ints w v l) (x : Int) (hx : Cnf.Lit x) (r : Int) (hr : Cnf.value l x = r) :
    Calls Try.prog 26 #[v, .int .i64 x] w fun e w' => e = .returned (.int .i64 r) ∧ w = w' := by
  obtain ⟨ao, cap, rfl, hl, hm⟩ := hI.shape
  have hnx := hx.wrap
  obtain ⟨nx, hnx0⟩ : ∃ nx, nx = -x := ⟨_, rfl⟩
  rw [← hnx0] at hnx
  have HNX := Lib.hid hnx0
  have HR := Lib.hid hr
  clear hnx0 hr
  have hnx' : IntKind.i64.wrap (-x) = nx := by rw [← HNX.out]; exact hnx
  clear hnx
  go_enter Try.func26, Try.ntmps26
  go_wp2_with fail
  go_loop [8] (fun v => ∃ k : Nat, v = .int .i64 k ∧ k ≤ l.length ∧ Cnf.value l x = Cnf.value (l.drop k) x) (fun v => l.length - (intOf v).toNat)
  case atStart => exact ⟨0, rfl, Nat.zero_le _, rfl⟩
  case round =>
    obtain ⟨k, rfl, hk, hV⟩ := hrel
    by_cases c : k < l.length
    · obtain ⟨b, off, rfl, _, hc⟩ := hI.cells _ _ _ rfl (by omega)
      have q := hc k c
      rw [Cnf.value_drop c] at hV
      clear hc
      have HV := Lib.hid hV
      clear hV
      generalize l.getD k 0 = y at *
      by_cases y1 : y = x
      · have e1 : (y == x) = true := beq_iff_eq.2 y1
        have Y1 := Lib.hid y1
        clear y1
        go_wp2_with fail
        go_ret
        refine ⟨?_, rfl⟩
        rw [← HR.out, HV.out, if_pos Y1.out]
        rfl
      · have e1 : (y == x) = false := beq_eq_false_iff_ne.2 y1
        have Y1 := Lib.hid y1
        clear y1
        by_cases y2 : y = nx
        · have e2 : (y == nx) = true := beq_iff_eq.2 y2
          have Y2 := Lib.hid y2
          clear y2
          go_wp2_with fail
          go_ret
          refine ⟨?_, rfl⟩
          rw [← HR.out, HV.out, if_neg Y1.out, if_pos (by rw [← HNX.out]; exact Y2.out)]
          rfl
        · have e2 : (y == nx) = false := beq_eq_false_iff_ne.2 y2
          have Y2 := Lib.hid y2
          clear y2
          go_wp2_with fail
          go_round
          case rel => exact ⟨k + 1, by go_num, by omega, by rw [HV.out, if_neg Y1.out, if_neg (by rw [← HNX.out]; exact Y2.out)]⟩
          case measure => simp [intOf]; omega
    · have hk' : k = l.length := by omega
      subst hk'
      have HV := Lib.hid hV
      clear hV
      go_wp2_with fail
      go_ret
      refine ⟨?_, rfl⟩
      rw [← HR.out, HV.out, List.drop_length]
      rfl

set_option maxHeartbeats 1600000 in
theorem Follows_any {vl vc : Value} {l c : List Int} (hl : Ints w vl l) (hc : Ints w vc c) (hlit : ∀ x ∈ c, Cnf.Lit x) (op r : Int) (hr : Cnf.fol l c 0 0 = (op, r)) :
    Calls Try.prog 47 #[vl, vc] w fun e w' => e = .returned (.tuple #[.int .i64 op, .int .i64 r]) ∧ w = w' := by
  obtain ⟨ac, cc, rfl, hc1, hc2⟩ := hc.shape
  have HR := Lib.hid hr
  have HLit := Lib.hid hlit
  clear hr hlit
  go_enter Try.func47, Try.ntmps47
  go_wp2_with fail
  go_loop [6, 7, 12] (fun vo vn v => ∃ (k n : Nat) (o : Int), v = .int .i64 k ∧ vo = .int .i64 o ∧ vn = .int .i64 n ∧ k ≤ c.length ∧ n ≤ k ∧ Cnf.fol l c 0 0 = Cnf.fol l (c.drop k) o n) (fun _ _ v => c.length - (intOf v).toNat)
  case atStart => exact ⟨0, 0, 0, rfl, rfl, rfl, Nat.zero_le _, Nat.le_refl _, rfl⟩
  case round =>
    obtain ⟨k, n, o, rfl, rfl, rfl, hk, hnk, hV⟩ := hrel
    by_cases ck : k < c.length
    · obtain ⟨b, off, rfl, _, hcs⟩ := hc.cells _ _ _ rfl (by omega)
      have q := hcs k ck
      have hx : Cnf.Lit (c.getD k 0) := HLit.out _ (by rw [List.getD_eq_getElem?_getD, List.getElem?_eq_getElem ck]; exact List.getElem_mem ck)
      rw [Cnf.fol_drop l ck] at hV
      have HV := Lib.hid hV
      clear hcs hV
      generalize c.getD k 0 = x at *
      rcases Cnf.value_range l x with hv | hv | hv
      · have HVX := Lib.hid hv
        clear hv
        go_wp2_with fail
        refine (Value_any hl x hx 0 HVX.out).mono ?_
        rintro e w' ⟨rfl, rfl⟩
        go_wp2_with fail
        go_round
        case rel => exact ⟨k + 1, n + 1, x, by go_num, rfl, by go_num, by omega, by omega, by rw [HV.out, HVX.out]; simp⟩
        case measure => simp [intOf]; omega
      · have HVX := Lib.hid hv
        clear hv
        go_wp2_with fail
        refine (Value_any hl x hx 1 HVX.out).mono ?_
        rintro e w' ⟨rfl, rfl⟩
        go_wp2_with fail
        go_ret2
        have h := HR.out
        rw [HV.out, HVX.out] at h
        simp only [if_true, Prod.mk.injEq] at h
        obtain ⟨rfl, rfl⟩ := h
        exact ⟨rfl, rfl⟩
      · have HVX := Lib.hid hv
        clear hv
        go_wp2_with fail
        refine (Value_any hl x hx (-1) HVX.out).mono ?_
        rintro e w' ⟨rfl, rfl⟩
        go_wp2_with fail
        go_round
        case rel => exact ⟨k + 1, n, o, by go_num, rfl, rfl, by omega, by omega, by rw [HV.out, HVX.out]; simp⟩
        case measure => simp [intOf]; omega
    · have hk' : k = c.length := by omega
      have hfin : (op, r) = Cnf.folEnd o n := by
        rw [← HR.out, hV, hk', List.drop_length]
        rfl
      have HF := Lib.hid hfin
      clear hV hfin
      by_cases n0 : n = 0
      · subst n0
        go_wp2_with fail
        go_ret2
        have h := HF.out
        simp only [Cnf.folEnd, if_true, Prod.mk.injEq] at h
        obtain ⟨rfl, rfl⟩ := h
        exact ⟨rfl, rfl⟩
      · have e0 : ((n : Int) == 0) = false := beq_eq_false_iff_ne.2 (by omega)
        by_cases n1 : n = 1
        · subst n1
          go_wp2_with fail
          go_ret2
          have h := HF.out
          simp only [Cnf.folEnd] at h
          obtain ⟨rfl, rfl⟩ := h
          exact ⟨rfl, rfl⟩
        · have e1 : ((n : Int) == 1) = false := beq_eq_false_iff_ne.2 (by omega)
          go_wp2_with fail
          go_ret2
          have h := HF.out
          simp only [Cnf.folEnd, n0, n1, if_false, Prod.mk.injEq] at h
          obtain ⟨rfl, rfl⟩ := h
          exact ⟨rfl, rfl⟩

end
end Go.Proofs.Ytjedgdamommgeaa

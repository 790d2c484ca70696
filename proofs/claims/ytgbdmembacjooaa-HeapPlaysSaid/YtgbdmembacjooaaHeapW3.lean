/- The walks of package heap, third part: the methods that are exported, but for those that make memory. -/
import Derived.Test.YtgbdmembacjooaaHeapW2
namespace Go.Proofs.Ytgbdmembacjooaa
open Go.RowKit

section
variable {w : World} {b : Nat} {vl va vs : Value} {h : Hp}

set_option maxHeartbeats 800000 in
theorem orders_any (H : HeapAt w b vl va vs h) (o : h.Ok) :
    Calls Try.prog 21 #[.pointer (some ⟨b, 0, none⟩)] w fun e w' =>
      e = .returned (.tuple #[]) ∧ HeapAt w' b vl va vs h.orders ∧ h.orders.Ok ∧ Only (HFoot b vl va vs) w w' := by
  have hn := o.n
  have hle := o.le
  obtain ⟨al, cl, rfl, _, _⟩ := own_slice H.l
  have h0 := H.c0
  go_enter Try.func21, Try.ntmps21
  go_wp2
  go_loopw [2] (fun v wr => ∃ (j : Nat) (h' : Hp), v = .int .i64 ((j : Int) - 1) ∧ j ≤ 65536 ∧ HeapAt wr b (.slice al h.L.length cl) va vs h' ∧ h'.Ok ∧ Only (HFoot b (.slice al h.L.length cl) va vs) w wr ∧ h.orders = Hp.ordersTo j h') (fun v _ => (intOf v + 1).toNat)
  case atStart => exact ⟨h.L.length / 2, h, congrArg _ (by omega), by omega, H, o, Only.refl _ _, rfl⟩
  case round =>
    obtain ⟨j, h', rfl, hj, H', o', hO, hU⟩ := hrel
    have HU := Lib.hid hU
    clear hU
    cases j with
    | zero =>
      go_wp2_with fail
      go_end0
      rw [HU.out]
      exact ⟨rfl, H', o', hO⟩
    | succ j =>
      go_wp2_with fail
      refine (down_any H' o' j _ (by omega) (by omega)).mono ?_
      rintro e w1 ⟨rfl, H1, o1, O1⟩
      go_wp2_with fail
      go_roundw
      case rel => exact ⟨j, _, congrArg _ (by omega), by omega, H1, o1, hO.same O1, HU.out⟩
      case measure => simp [intOf]

theorem is_nil (n : Int) : Calls Try.prog 17 #[.pointer none, .int .i64 n] w fun e w' => e = .returned (.bool false) ∧ w = w' := by
  go_enter Try.func17, Try.ntmps17
  go_wp2
  go_ret
  exact ⟨rfl, rfl⟩

theorem is_any (H : HeapAt w b vl va vs h) (o : h.Ok) (z : Int) : Calls Try.prog 17 #[.pointer (some ⟨b, 0, none⟩), .int .i64 z] w fun e w' =>
    e = .returned (.bool (decide (1 ≤ z) && decide (z ≤ h.S.length))) ∧ w = w' := by
  rw [← o.len]
  obtain ⟨aa, ca, rfl, _, _⟩ := own_slice H.a
  have h1 := H.c1
  by_cases c : 1 ≤ z
  · go_enter Try.func17, Try.ntmps17
    go_wp2
    go_ret
    exact ⟨by simp [c], rfl⟩
  · go_enter Try.func17, Try.ntmps17
    go_wp2
    go_ret
    exact ⟨by simp; omega, rfl⟩

/-- .. there is one -/
theorem is_yes (H : HeapAt w b vl va vs h) (o : h.Ok) (a : Nat) (ha : a < h.S.length) (z : Int) (hz : z = a + 1) : Calls Try.prog 17 #[.pointer (some ⟨b, 0, none⟩), .int .i64 z] w fun e w' =>
    e = .returned (.bool true) ∧ w = w' :=
  (is_any H o z).mono fun _ _ ⟨he, hw⟩ => ⟨by rw [he]; simp; omega, hw⟩

theorem is_no (H : HeapAt w b vl va vs h) (o : h.Ok) (z : Int) (hz : z < 1 ∨ h.S.length < z) : Calls Try.prog 17 #[.pointer (some ⟨b, 0, none⟩), .int .i64 z] w fun e w' =>
    e = .returned (.bool false) ∧ w = w' :=
  (is_any H o z).mono fun _ _ ⟨he, hw⟩ => ⟨by rw [he]; simp; omega, hw⟩

theorem Has_nil (n : Int) : Calls Try.prog 15 #[.pointer none, .int .i64 n] w fun e w' => e = .returned (.bool false) ∧ w = w' := by
  go_enter Try.func15, Try.ntmps15
  go_wp2_with fail
  refine (is_nil n).mono ?_
  rintro e w' ⟨rfl, rfl⟩
  go_wp2
  go_ret
  exact ⟨rfl, rfl⟩

theorem Has_no (H : HeapAt w b vl va vs h) (o : h.Ok) (z : Int) (hz : z < 1 ∨ h.S.length < z) : Calls Try.prog 15 #[.pointer (some ⟨b, 0, none⟩), .int .i64 z] w fun e w' =>
    e = .returned (.bool false) ∧ w = w' := by
  go_enter Try.func15, Try.ntmps15
  go_wp2_with fail
  refine (is_no H o _ hz).mono ?_
  rintro e w' ⟨rfl, rfl⟩
  go_wp2
  go_ret
  exact ⟨rfl, rfl⟩

theorem Has_yes (H : HeapAt w b vl va vs h) (o : h.Ok) (a : Nat) (ha : a < h.S.length) (z : Int) (hz : z = a + 1) : Calls Try.prog 15 #[.pointer (some ⟨b, 0, none⟩), .int .i64 z] w fun e w' =>
    e = .returned (.bool (decide (0 ≤ h.A.getD a 0))) ∧ w = w' := by
  subst hz
  have hn := o.n
  have hlen := o.len
  have ha' : a < h.A.length := by omega
  obtain ⟨ga, ca, rfl, _, _⟩ := own_some H.a (by omega)
  have h1 := H.c1
  have hc : w.cell? ⟨ga, a, none⟩ = some (.int .i64 (h.A.getD a 0)) := row_cell H.a 0 ha'
  have Hlen := Lib.hid hlen
  clear hlen
  generalize h.A.getD a 0 = q at hc ⊢
  go_enter Try.func15, Try.ntmps15
  go_wp2_with fail
  refine (is_yes H o a ha _ rfl).mono ?_
  rintro e w' ⟨rfl, rfl⟩
  go_wp2
  go_ret
  exact ⟨rfl, rfl⟩

theorem Len_nil : Calls Try.prog 11 #[.pointer none] w fun e w' => e = .returned (.int .i64 0) ∧ w = w' := by
  go_enter Try.func11, Try.ntmps11
  go_wp2
  go_ret
  exact ⟨rfl, rfl⟩

theorem Len_any (H : HeapAt w b vl va vs h) : Calls Try.prog 11 #[.pointer (some ⟨b, 0, none⟩)] w fun e w' => e = .returned (.int .i64 h.L.length) ∧ w = w' := by
  obtain ⟨aa, ca, rfl, _, _⟩ := own_slice H.l
  have h1 := H.c0
  go_enter Try.func11, Try.ntmps11
  go_wp2
  go_ret
  exact ⟨rfl, rfl⟩

theorem Score_nil (n : Int) : Calls Try.prog 16 #[.pointer none, .int .i64 n] w fun e w' => e = .returned (.int .u64 0) ∧ w = w' := by
  go_enter Try.func16, Try.ntmps16
  go_wp2_with fail
  refine (is_nil n).mono ?_
  rintro e w' ⟨rfl, rfl⟩
  go_wp2
  go_ret
  exact ⟨rfl, rfl⟩

theorem Score_no (H : HeapAt w b vl va vs h) (o : h.Ok) (z : Int) (hz : z < 1 ∨ h.S.length < z) : Calls Try.prog 16 #[.pointer (some ⟨b, 0, none⟩), .int .i64 z] w fun e w' =>
    e = .returned (.int .u64 0) ∧ w = w' := by
  go_enter Try.func16, Try.ntmps16
  go_wp2_with fail
  refine (is_no H o _ hz).mono ?_
  rintro e w' ⟨rfl, rfl⟩
  go_wp2
  go_ret
  exact ⟨rfl, rfl⟩

theorem Score_yes (H : HeapAt w b vl va vs h) (o : h.Ok) (a : Nat) (ha : a < h.S.length) (z : Int) (hz : z = a + 1) : Calls Try.prog 16 #[.pointer (some ⟨b, 0, none⟩), .int .i64 z] w fun e w' =>
    e = .returned (.int .u64 (h.sc a)) ∧ w = w' := by
  subst hz
  have hn := o.n
  obtain ⟨gs, cs, rfl, _, _⟩ := own_some H.s (by omega)
  have h1 := H.c2
  have hc : w.cell? ⟨gs, a, none⟩ = some (.int .u64 (h.sc a)) := row_cell H.s 0 ha
  generalize h.sc a = q at hc ⊢
  go_enter Try.func16, Try.ntmps16
  go_wp2_with fail
  refine (is_yes H o a ha _ rfl).mono ?_
  rintro e w' ⟨rfl, rfl⟩
  go_wp2
  go_ret
  exact ⟨rfl, rfl⟩

theorem Halve_nil : Calls Try.prog 13 #[.pointer none] w fun e w' => e = .returned (.tuple #[]) ∧ w = w' := by
  go_enter Try.func13, Try.ntmps13
  go_wp2
  refine bodyPost_ret (results_none rfl _ _ _) rfl ?_
  exact ⟨rfl, rfl⟩

end
end Go.Proofs.Ytgbdmembacjooaa

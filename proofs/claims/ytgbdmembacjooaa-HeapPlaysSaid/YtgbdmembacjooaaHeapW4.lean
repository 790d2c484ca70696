/- The walks of package heap, fourth part: Halve, Bump, Push, Pop, New. -/
import Derived.Test.YtgbdmembacjooaaHeapW3
namespace Go.Proofs.Ytgbdmembacjooaa
open Go.RowKit

def halfTo (k : Nat) (S : List Nat) : List Nat := (S.take k).map (· / 2) ++ S.drop k

theorem halfTo_len (k : Nat) (S : List Nat) : (halfTo k S).length = S.length := by simp [halfTo]; omega
theorem halfTo_zero (S : List Nat) : halfTo 0 S = S := by simp [halfTo]
theorem halfTo_all (S : List Nat) : halfTo S.length S = S.map (· / 2) := by simp [halfTo]
theorem halfTo_get {k : Nat} {S : List Nat} (h : k < S.length) : (halfTo k S).getD k 0 = S.getD k 0 := by
  simp [halfTo, List.getD_eq_getElem?_getD, List.getElem?_append, Nat.min_eq_left (Nat.le_of_lt h)]
theorem halfTo_succ {k : Nat} {S : List Nat} (h : k < S.length) : (halfTo k S).set k (S.getD k 0 / 2) = halfTo (k + 1) S := by
  simp only [halfTo]
  rw [List.set_append_right _ _ (by simp; omega)]
  simp only [List.length_map, List.length_take, Nat.min_eq_left (Nat.le_of_lt h), Nat.sub_self]
  rw [List.drop_eq_getElem_cons h, List.set_cons_zero, List.take_succ_eq_append_getElem h]
  rw [List.map_append, List.append_assoc]
  simp [List.getD_eq_getElem?_getD, List.getElem?_eq_getElem h]

section
variable {w : World} {b : Nat} {vl va vs : Value} {h : Hp}

set_option maxHeartbeats 800000 in
theorem Halve_any (H : HeapAt w b vl va vs h) (o : h.Ok) :
    Calls Try.prog 13 #[.pointer (some ⟨b, 0, none⟩)] w fun e w' =>
      e = .returned (.tuple #[]) ∧ HeapAt w' b vl va vs h.halve ∧ h.halve.Ok ∧ Only (HFoot b vl va vs) w w' := by
  have hn := o.n
  obtain ⟨aso, cs, rfl, hcs, hcm⟩ := own_slice H.s
  unfold maxLen at hcm
  have h2 := H.c2
  go_enter Try.func13, Try.ntmps13
  go_wp2
  go_loopw [10] (fun v wr => ∃ (k : Nat), v = .int .i64 k ∧ k ≤ h.S.length ∧ HeapAt wr b vl va (.slice aso h.S.length cs) { h with S := halfTo k h.S } ∧ Only (HFoot b vl va (.slice aso h.S.length cs)) w wr) (fun v _ => h.S.length - (intOf v).toNat)
  case atStart => exact ⟨0, rfl, Nat.zero_le _, by rw [halfTo_zero]; exact H, Only.refl _ _⟩
  case round =>
    obtain ⟨k, rfl, hk, H', hO⟩ := hrel
    by_cases c : k < h.S.length
    · have hown := H'.s
      simp only [halfTo_len] at hown
      obtain ⟨gs, cs', he, _, _⟩ := own_some hown (by omega)
      simp only [Value.slice.injEq] at he
      obtain ⟨rfl, -, rfl⟩ := he
      have hcell := row_cell hown 0 (i := k) (by rw [halfTo_len]; exact c)
      rw [halfTo_get c] at hcell
      have hcell' : wr.cell? ⟨gs, k, none⟩ = some (.int .u64 (h.S.getD k 0 : Nat)) := hcell
      have hf := hown.frozenAt k
      have h2' := H'.c2
      have hS := halfTo_succ c
      have hm := o.sc_le k
      have hset := H'.setS k (h.S.getD k 0 / 2)
      unfold Hp.sc Hp.most at hm
      have HS := Lib.hid hS
      have HSet := Lib.hid hset
      clear hS hset hown hcell
      generalize h.S.getD k 0 = q at *
      go_wp2
      go_roundw
      case rel =>
        refine ⟨k + 1, by go_num, by omega, ?_, ?_⟩
        · have := HSet.out
          rw [HS.out] at this
          exact this
        · have f : HFoot b vl va (.slice (some ⟨gs, 0, none⟩) h.S.length cs) gs := .inr (.inr (.inr rfl))
          exact hO.setCell (p := ⟨gs, k, none⟩) (.inl f) _
      case measure => simp [intOf]; omega
    · have hk' : k = h.S.length := by omega
      subst hk'
      rw [halfTo_all] at H'
      go_wp2_with fail
      refine (orders_any H' o.half).mono ?_
      rintro e w1 ⟨rfl, H1, o1, O1⟩
      go_wp2_with fail
      go_end0
      exact ⟨rfl, H1, o1, hO.same O1⟩

theorem Has_at (H : HeapAt w b vl va vs h) (o : h.Ok) (a : Nat) (ha : a < h.S.length) (z : Int) (hz : z = a + 1) (r : Bool) (hr : decide (0 ≤ h.A.getD a 0) = r) :
    Calls Try.prog 15 #[.pointer (some ⟨b, 0, none⟩), .int .i64 z] w fun e w' => e = .returned (.bool r) ∧ w = w' := by
  subst hr
  exact Has_yes H o a ha z hz

theorem Bump_nil (n : Int) (y : Int) : Calls Try.prog 9 #[.pointer none, .int .i64 n, .int .u64 y] w fun e w' => e = .returned (.tuple #[]) ∧ w = w' := by
  go_enter Try.func9, Try.ntmps9
  go_wp2_with fail
  refine (is_nil n).mono ?_
  rintro e w' ⟨rfl, rfl⟩
  go_wp2_with fail
  refine bodyPost_ret (results_none rfl _ _ _) rfl ?_
  exact ⟨rfl, rfl⟩

theorem Bump_no (H : HeapAt w b vl va vs h) (o : h.Ok) (z y : Int) (hz : z < 1 ∨ h.S.length < z) : Calls Try.prog 9 #[.pointer (some ⟨b, 0, none⟩), .int .i64 z, .int .u64 y] w fun e w' =>
    e = .returned (.tuple #[]) ∧ w = w' := by
  go_enter Try.func9, Try.ntmps9
  go_wp2_with fail
  refine (is_no H o _ hz).mono ?_
  rintro e w' ⟨rfl, rfl⟩
  go_wp2_with fail
  refine bodyPost_ret (results_none rfl _ _ _) rfl ?_
  exact ⟨rfl, rfl⟩

theorem bump_def (h : Hp) (a y : Nat) (h1 : Hp) (y1 : Nat) (hr : Hp.roomI h a y = (h1, y1)) (hb : Hp) (e : hb = { h1 with S := h1.S.set a (h1.sc a + y1) }) :
    h.bump a y = if hb.A.getD a 0 < 0 then hb else hb.upI (hb.A.getD a 0).toNat := by
  subst e
  unfold Hp.roomI at hr
  unfold Hp.bump
  rw [hr]

set_option maxHeartbeats 1600000 in
theorem Bump_any (H : HeapAt w b vl va vs h) (o : h.Ok) (a : Nat) (ha : a < h.S.length) (y : Nat) (hy : y < 18446744073709551616) (z zy : Int) (hz : z = a + 1) (hzy : zy = y) :
    Calls Try.prog 9 #[.pointer (some ⟨b, 0, none⟩), .int .i64 z, .int .u64 zy] w fun e w' =>
      e = .returned (.tuple #[]) ∧ HeapAt w' b vl va vs (h.bump a y) ∧ (h.bump a y).Ok ∧ Only (HFoot b vl va vs) w w' := by
  subst hz hzy
  have hn := o.n
  obtain ⟨gs, cs, rfl, hcs, hcm⟩ := own_some H.s (by omega)
  unfold maxLen at hcm
  go_enter Try.func9, Try.ntmps9
  go_wp2_with fail
  refine (is_yes H o a ha _ rfl).mono ?_
  rintro e w' ⟨rfl, rfl⟩
  go_wp2_with fail
  go_loopw [2] (fun v wr => ∃ (y' : Nat) (h' : Hp), v = .int .u64 y' ∧ y' < 18446744073709551616 ∧ HeapAt wr b vl va (.slice (some ⟨gs, 0, none⟩) h.S.length cs) h' ∧ h'.Ok ∧ Only (HFoot b vl va (.slice (some ⟨gs, 0, none⟩) h.S.length cs)) w wr ∧ a < h'.S.length ∧ h.roomI a y = h'.roomI a y') (fun v _ => (intOf v).toNat)
  case atStart => exact ⟨y, h, rfl, hy, H, o, Only.refl _ _, ha, rfl⟩
  case round =>
    obtain ⟨y', h', rfl, hy', H', o', hO, ha', hR⟩ := hrel
    have hm := o'.sc_le a
    rw [Hp.roomI_eq _ _ _ hm] at hR
    have h2 := H'.c2
    have hlenS : h.S.length = h'.S.length := by obtain ⟨_, _, he, _⟩ := own_slice H'.s; simp at he; omega
    have ha2 : a < h.S.length := ha
    have hcell : wr.cell? ⟨gs, a, none⟩ = some (.int .u64 (h'.sc a : Nat)) := by
      have hown := H'.s
      rw [← hlenS] at hown
      exact row_cell hown 0 ha'
    have hf : wr.frozen? ⟨gs, a, none⟩ = false := by
      have hown := H'.s
      rw [← hlenS] at hown
      exact hown.frozenAt a
    have HlenS := Lib.hid hlenS
    clear hlenS
    unfold Hp.most at hm hR
    by_cases c1 : 4611686018427387904 < y'
    · simp only [c1, decide_true, Bool.true_or, if_true] at hR
      have HR := Lib.hid hR
      clear hR
      go_wp2_with fail
      refine (Halve_any H' o').mono ?_
      rintro e w1 ⟨rfl, H1, o1, O1⟩
      go_wp2_with fail
      go_roundw
      case rel => exact ⟨y' / 2, _, by go_num, by omega, H1, o1, hO.same O1, by rw [Hp.halve_S]; simpa using ha', HR.out⟩
      case measure => simp [intOf]; omega
    · by_cases c2 : 4611686018427387904 < h'.sc a + y'
      · simp only [c2, decide_true, Bool.or_true, if_true] at hR
        have HR := Lib.hid hR
        clear hR
        have Hcell := Lib.hid hcell
        generalize h'.sc a = q at *
        go_wp2_with fail
        refine (Halve_any H' o').mono ?_
        rintro e w1 ⟨rfl, H1, o1, O1⟩
        go_wp2_with fail
        go_roundw
        case rel => exact ⟨y' / 2, _, by go_num, by omega, H1, o1, hO.same O1, by rw [Hp.halve_S]; simpa using ha', HR.out⟩
        case measure => simp [intOf]; omega
      · simp only [c1, c2, decide_false, Bool.or_self, Bool.false_eq_true, if_false] at hR
        obtain ⟨h1, eh1⟩ : ∃ h1 : Hp, h1 = { h' with S := h'.S.set a (h'.sc a + y') } := ⟨_, rfl⟩
        have hB := bump_def h a y h' y' hR h1 eh1
        have oB : h1.Ok := eh1 ▸ o'.setS a (h'.sc a + y') (by unfold Hp.most; omega)
        have hset : HeapAt (wr.setCell ⟨gs, a, none⟩ (cS (h'.sc a + y'))) b vl va (.slice (some ⟨gs, 0, none⟩) h.S.length cs) h1 := eh1 ▸ H'.setS a (h'.sc a + y')
        have ha3 : a < h1.S.length := by rw [eh1]; simpa using ha'
        clear eh1
        have HB := Lib.hid hB
        have HSet := Lib.hid hset
        clear hR hB hset
        generalize hq : h'.sc a = q at *
        have Hq := Lib.hid hq
        clear hq
        go_wp2_with fail
        have H1 : HeapAt (wr.setCell ⟨gs, a, none⟩ (.int .u64 ((q : Int) + (y' : Int)))) b vl va (.slice (some ⟨gs, 0, none⟩) h.S.length cs) h1 := by
          have := HSet.out
          simp only [cS, Int.natCast_add] at this
          exact this
        have O1 : Only (HFoot b vl va (.slice (some ⟨gs, 0, none⟩) h.S.length cs)) w (wr.setCell ⟨gs, a, none⟩ (.int .u64 ((q : Int) + (y' : Int)))) :=
          hO.setCell (p := ⟨gs, a, none⟩) (.inl (.inr (.inr (.inr rfl)))) _
        clear h2 hcell hf HSet
        generalize wr.setCell ⟨gs, a, none⟩ (.int .u64 ((q : Int) + (y' : Int))) = w1 at *
        have hB2 := HB.out
        have hA := oB.len
        by_cases c3 : h1.A.getD a 0 < 0
        · rw [if_pos c3] at hB2
          have HB2 := Lib.hid hB2
          clear hB2 HB hA
          refine (Has_at H1 oB a ha3 _ rfl _ (decide_eq_false (by omega))).mono ?_
          rintro e w' ⟨rfl, rfl⟩
          go_wp2_with fail
          go_end0
          rw [HB2.out]
          exact ⟨rfl, H1, oB, O1⟩
        · rw [if_neg c3] at hB2
          have HB2 := Lib.hid hB2
          have HA := Lib.hid hA
          clear hB2 HB hA
          refine (Has_at H1 oB a ha3 _ rfl _ (decide_eq_true (by omega))).mono ?_
          rintro e w' ⟨rfl, rfl⟩
          obtain ⟨ga, ca, rfl, _, _⟩ := own_some H1.a (by have := HA.out; omega)
          have hpl := oB.place ha3 (by omega)
          have hc1 := H1.c1
          have hca : w1.cell? ⟨ga, a, none⟩ = some (.int .i64 (h1.A.getD a 0)) := row_cell H1.a 0 (by have := HA.out; omega)
          have hla : a < h1.A.length := by have := HA.out; omega
          have hpl1 := hpl.1
          have HB3 := HB2.out
          clear HB2 hpl
          generalize h1.A.getD a 0 = zq at *
          have HB2 := Lib.hid HB3
          clear HB3
          go_wp2_with fail
          refine (up_any H1 oB _ hpl1 _ (by omega)).mono ?_
          rintro e w2 ⟨rfl, H2, o2, O2⟩
          go_wp2_with fail
          go_end0
          rw [HB2.out]
          exact ⟨rfl, H2, o2, O1.same O2⟩

end
end Go.Proofs.Ytgbdmembacjooaa

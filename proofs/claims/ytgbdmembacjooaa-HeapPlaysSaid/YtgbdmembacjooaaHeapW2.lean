/- The walks of package heap, second part: the loops. -/
import Derived.Test.YtgbdmembacjooaaHeapW
namespace Go.Proofs.Ytgbdmembacjooaa
open Go.RowKit

section
variable {w : World} {b : Nat} {vl va vs : Value} {h : Hp}

theorem before_at (H : HeapAt w b vl va vs h) (o : h.Ok) (i k : Nat) (hi : i < h.L.length) (hk : k < h.L.length) (r : Bool) (hr : h.bef i k = r) (zi zk : Int) (ei : zi = i) (ek : zk = k) :
    Calls Try.prog 22 #[.pointer (some ⟨b, 0, none⟩), .int .i64 zi, .int .i64 zk] w fun e w' =>
      e = .returned (.bool r) ∧ HeapAt w' b vl va vs h ∧ Only (HFoot b vl va vs) w w' := by
  subst ei ek hr
  exact (before_any H o i k hi hk).mono fun _ _ ⟨he, n, hw⟩ => by subst hw; exact ⟨he, H.drewN n, (Only.refl _ _).drewN n⟩

theorem swap_at (H : HeapAt w b vl va vs h) (o : h.Ok) (i k : Nat) (hi : i < h.L.length) (hk : k < h.L.length) (zi zk : Int) (ei : zi = i) (ek : zk = k) :
    Calls Try.prog 19 #[.pointer (some ⟨b, 0, none⟩), .int .i64 zi, .int .i64 zk] w fun e w' =>
      e = .returned (.tuple #[]) ∧ HeapAt w' b vl va vs (h.swp i k) ∧ Only (HFoot b vl va vs) w w' := by
  subst ei ek
  exact swap_any H o i k hi hk

set_option maxHeartbeats 800000 in
theorem up_any (H : HeapAt w b vl va vs h) (o : h.Ok) (i : Nat) (hi : i < h.L.length) (zi : Int) (ei : zi = i) :
    Calls Try.prog 18 #[.pointer (some ⟨b, 0, none⟩), .int .i64 zi] w fun e w' =>
      e = .returned (.tuple #[]) ∧ HeapAt w' b vl va vs (h.upI i) ∧ (h.upI i).Ok ∧ Only (HFoot b vl va vs) w w' := by
  subst ei
  go_enter Try.func18, Try.ntmps18
  go_wp2
  go_loopw [1] (fun v wr => ∃ (j : Nat) (h' : Hp), v = .int .i64 j ∧ j < h'.L.length ∧ HeapAt wr b vl va vs h' ∧ h'.Ok ∧ Only (HFoot b vl va vs) w wr ∧ h.upI i = h'.upI j) (fun v _ => (intOf v).toNat)
  case atStart => exact ⟨i, h, rfl, hi, H, o, Only.refl _ _, rfl⟩
  case round =>
    obtain ⟨j, h', rfl, hj, H', o', hO, hU⟩ := hrel
    rw [Hp.upI_eq h' j] at hU
    have hn := o'.n
    have hle := o'.le
    by_cases c : 0 < j
    · cases hb : h'.bef j ((j - 1) / 2)
      · simp only [hb, Bool.and_false, Bool.false_eq_true, if_false] at hU
        have HU := Lib.hid hU
        have HB := Lib.hid hb
        clear hU hb
        go_wp2_with fail
        refine (before_at H' o' j ((j - 1) / 2) hj (by omega) _ HB.out _ _ rfl (by omega)).mono ?_
        rintro e w1 ⟨rfl, H1, O1⟩
        go_wp2_with fail
        go_end0
        rw [HU.out]
        exact ⟨rfl, H1, o', hO.same O1⟩
      · simp only [hb, c, decide_true, Bool.and_self, if_true] at hU
        have HU := Lib.hid hU
        have HB := Lib.hid hb
        clear hU hb
        go_wp2_with fail
        refine (before_at H' o' j ((j - 1) / 2) hj (by omega) _ HB.out _ _ rfl (by omega)).mono ?_
        rintro e w1 ⟨rfl, H1, O1⟩
        go_wp2_with fail
        refine (swap_at H1 o' j ((j - 1) / 2) hj (by omega) _ _ rfl (by omega)).mono ?_
        rintro e w2 ⟨rfl, H2, O2⟩
        go_wp2_with fail
        go_roundw
        case rel => exact ⟨(j - 1) / 2, _, congrArg _ (by omega), by simp; omega, H2, o'.swp hj (by omega), (hO.same O1).same O2, HU.out⟩
        case measure => simp [intOf]; omega
    · simp only [c, decide_false, Bool.false_and, Bool.false_eq_true, if_false] at hU
      have HU := Lib.hid hU
      clear hU
      go_wp2_with fail
      go_end0
      rw [HU.out]
      exact ⟨rfl, H', o', hO⟩

set_option maxHeartbeats 800000 in
theorem down_any (H : HeapAt w b vl va vs h) (o : h.Ok) (i : Nat) (zi : Int) (ei : zi = i) (hi : i ≤ 65536) :
    Calls Try.prog 20 #[.pointer (some ⟨b, 0, none⟩), .int .i64 zi] w fun e w' =>
      e = .returned (.tuple #[]) ∧ HeapAt w' b vl va vs (h.dn i) ∧ (h.dn i).Ok ∧ Only (HFoot b vl va vs) w w' := by
  subst ei
  go_enter Try.func20, Try.ntmps20
  go_wp2
  go_loopw [1] (fun v wr => ∃ (j : Nat) (h' : Hp), v = .int .i64 j ∧ j ≤ 65536 ∧ HeapAt wr b vl va vs h' ∧ h'.Ok ∧ Only (HFoot b vl va vs) w wr ∧ h'.L.length = h.L.length ∧ h.dn i = h'.dn j) (fun v _ => h.L.length - (intOf v).toNat)
  case atStart => exact ⟨i, h, rfl, hi, H, o, Only.refl _ _, rfl, rfl⟩
  case round =>
    obtain ⟨j, h', rfl, hj, H', o', hO, hlen, hU⟩ := hrel
    rw [Hp.dn_eq h' j] at hU
    have Hlen := Lib.hid hlen
    clear hlen
    have hn := o'.n
    have hle := o'.le
    obtain ⟨al, cl, rfl, _, _⟩ := own_slice H'.l
    have h0 := H'.c0
    by_cases c : h'.L.length ≤ 2 * j + 1
    · rw [if_pos c] at hU
      have HU := Lib.hid hU
      clear hU
      go_wp2_with fail
      refine bodyPost_ret (results_none rfl _ _ _) rfl ?_
      rw [HU.out]
      exact ⟨rfl, H', o', hO⟩
    · rw [if_neg c] at hU
      have hk := Hp.kid_lt c
      by_cases c2 : 2 * j + 1 + 1 < h'.L.length
      · cases hb : h'.bef (2 * j + 1 + 1) (2 * j + 1)
        · have hkid : h'.kid j = 2 * j + 1 := by simp [Hp.kid, hb]
          have HB := Lib.hid hb
          clear hb
          rw [hkid] at hU hk
          cases hb2 : h'.bef (2 * j + 1) j
          · rw [hb2, if_neg (by simp)] at hU
            have HU := Lib.hid hU
            have HB2 := Lib.hid hb2
            clear hU hkid hb2
            go_wp2_with fail
            refine (before_at H' o' (2 * j + 1 + 1) (2 * j + 1) (by omega) (by omega) _ HB.out _ _ (by omega) (by omega)).mono ?_
            rintro e w1 ⟨rfl, H1, O1⟩
            go_wp2_with fail
            refine (before_at H1 o' (2 * j + 1) j (by omega) (by omega) _ HB2.out _ _ (by omega) rfl).mono ?_
            rintro e w2 ⟨rfl, H2, O2⟩
            go_wp2_with fail
            refine bodyPost_ret (results_none rfl _ _ _) rfl ?_
            rw [HU.out]
            exact ⟨rfl, H2, o', (hO.same O1).same O2⟩
          · rw [hb2, if_pos rfl] at hU
            have HU := Lib.hid hU
            have HB2 := Lib.hid hb2
            clear hU hkid hb2
            go_wp2_with fail
            refine (before_at H' o' (2 * j + 1 + 1) (2 * j + 1) (by omega) (by omega) _ HB.out _ _ (by omega) (by omega)).mono ?_
            rintro e w1 ⟨rfl, H1, O1⟩
            go_wp2_with fail
            refine (before_at H1 o' (2 * j + 1) j (by omega) (by omega) _ HB2.out _ _ (by omega) rfl).mono ?_
            rintro e w2 ⟨rfl, H2, O2⟩
            go_wp2_with fail
            refine (swap_at H2 o' j (2 * j + 1) (by omega) (by omega) _ _ rfl (by omega)).mono ?_
            rintro e w3 ⟨rfl, H3, O3⟩
            go_wp2_with fail
            go_roundw
            case rel => exact ⟨2 * j + 1, _, congrArg _ (by omega), by omega, H3, o'.swp (by omega) (by omega), ((hO.same O1).same O2).same O3, by simp [Hlen.out], HU.out⟩
            case measure => have := Hlen.out; simp [intOf]; omega
        · have hkid : h'.kid j = 2 * j + 1 + 1 := by simp [Hp.kid, hb, c2]
          have HB := Lib.hid hb
          clear hb
          rw [hkid] at hU hk
          cases hb2 : h'.bef (2 * j + 1 + 1) j
          · rw [hb2, if_neg (by simp)] at hU
            have HU := Lib.hid hU
            have HB2 := Lib.hid hb2
            clear hU hkid hb2
            go_wp2_with fail
            refine (before_at H' o' (2 * j + 1 + 1) (2 * j + 1) (by omega) (by omega) _ HB.out _ _ (by omega) (by omega)).mono ?_
            rintro e w1 ⟨rfl, H1, O1⟩
            go_wp2_with fail
            refine (before_at H1 o' (2 * j + 1 + 1) j (by omega) (by omega) _ HB2.out _ _ (by omega) rfl).mono ?_
            rintro e w2 ⟨rfl, H2, O2⟩
            go_wp2_with fail
            refine bodyPost_ret (results_none rfl _ _ _) rfl ?_
            rw [HU.out]
            exact ⟨rfl, H2, o', (hO.same O1).same O2⟩
          · rw [hb2, if_pos rfl] at hU
            have HU := Lib.hid hU
            have HB2 := Lib.hid hb2
            clear hU hkid hb2
            go_wp2_with fail
            refine (before_at H' o' (2 * j + 1 + 1) (2 * j + 1) (by omega) (by omega) _ HB.out _ _ (by omega) (by omega)).mono ?_
            rintro e w1 ⟨rfl, H1, O1⟩
            go_wp2_with fail
            refine (before_at H1 o' (2 * j + 1 + 1) j (by omega) (by omega) _ HB2.out _ _ (by omega) rfl).mono ?_
            rintro e w2 ⟨rfl, H2, O2⟩
            go_wp2_with fail
            refine (swap_at H2 o' j (2 * j + 1 + 1) (by omega) (by omega) _ _ rfl (by omega)).mono ?_
            rintro e w3 ⟨rfl, H3, O3⟩
            go_wp2_with fail
            go_roundw
            case rel => exact ⟨2 * j + 1 + 1, _, congrArg _ (by omega), by omega, H3, o'.swp (by omega) (by omega), ((hO.same O1).same O2).same O3, by simp [Hlen.out], HU.out⟩
            case measure => have := Hlen.out; simp [intOf]; omega
      · have hkid : h'.kid j = 2 * j + 1 := by simp [Hp.kid, c2]
        rw [hkid] at hU hk
        cases hb2 : h'.bef (2 * j + 1) j
        · rw [hb2, if_neg (by simp)] at hU
          have HU := Lib.hid hU
          have HB2 := Lib.hid hb2
          clear hU hkid hb2
          go_wp2_with fail
          refine (before_at H' o' (2 * j + 1) j (by omega) (by omega) _ HB2.out _ _ (by omega) rfl).mono ?_
          rintro e w2 ⟨rfl, H2, O2⟩
          go_wp2_with fail
          refine bodyPost_ret (results_none rfl _ _ _) rfl ?_
          rw [HU.out]
          exact ⟨rfl, H2, o', hO.same O2⟩
        · rw [hb2, if_pos rfl] at hU
          have HU := Lib.hid hU
          have HB2 := Lib.hid hb2
          clear hU hkid hb2
          go_wp2_with fail
          refine (before_at H' o' (2 * j + 1) j (by omega) (by omega) _ HB2.out _ _ (by omega) rfl).mono ?_
          rintro e w2 ⟨rfl, H2, O2⟩
          go_wp2_with fail
          refine (swap_at H2 o' j (2 * j + 1) (by omega) (by omega) _ _ rfl (by omega)).mono ?_
          rintro e w3 ⟨rfl, H3, O3⟩
          go_wp2_with fail
          go_roundw
          case rel => exact ⟨2 * j + 1, _, congrArg _ (by omega), by omega, H3, o'.swp (by omega) (by omega), (hO.same O2).same O3, by simp [Hlen.out], HU.out⟩
          case measure => have := Hlen.out; simp [intOf]; omega
end
end Go.Proofs.Ytgbdmembacjooaa

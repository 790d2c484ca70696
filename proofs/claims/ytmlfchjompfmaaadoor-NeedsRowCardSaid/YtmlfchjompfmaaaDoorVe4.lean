/- The document's order of versions, exact: Less (printed by gen/gen_ve4.py). -/
import Derived.Test.YtmlfchjompfmaaaDoorVe3
set_option linter.unusedVariables false
namespace Go.Proofs.YtmlfchjompfmaaaDoor
open Go.RowKit
open Vn (beB)
def lessR (x y : List (List UInt8)) : Nat → Nat → Bool
 | 0, _ => false
 | k + 1, i => if beB (x.getD i []) (y.getD i []) = true then true else if beB (y.getD i []) (x.getD i []) = true then false else lessR x y k (i + 1)
def lessB (a b : List UInt8) : Bool := if (mayB a && mayB b) = true then lessR (cutB 46 a) (cutB 46 b) (max (cutB 46 a).length (cutB 46 b).length) 0 else !mayB a && mayB b
theorem mayB_size {s : Str} (h : mayB s.toList = true) : s.size ≤ 40 := by
 unfold mayB at h
 simp only [Bool.and_eq_true, decide_eq_true_eq, size_toList] at h
 exact h.1.1.2
theorem mayB_len {s : Str} (h : mayB s.toList = true) : (cutB 46 s.toList).length ≤ 8 := by
 unfold mayB at h
 simp only [Bool.and_eq_true, decide_eq_true_eq] at h
 exact h.2
theorem getD_map_toList (l : List Str) (i : Nat) : (l.map ByteArray.toList).getD i [] = (l.getD i .empty).toList := by
 rw [List.getD_eq_getElem?_getD, List.getD_eq_getElem?_getD, List.getElem?_map]
 cases l[i]? with
 | none => exact (by rw [ByteArray.toList_eq]; rfl : ([] : List UInt8) = ByteArray.toList ByteArray.empty)
 | some x => rfl
theorem RowT.getD_ok {w : World} {B : Nat} {v : Value} {l : List Str} (h : RowT 1 StrC B w v l) (i : Nat) : okS (l.getD i .empty) := by
 obtain ⟨ao, cap, rfl, -, -⟩ := h.shape
 rw [List.getD_eq_getElem?_getD]
 cases hx : l[i]? with
 | none => exact (by unfold okS; decide : okS ByteArray.empty)
 | some y => exact (StrC_at h hx).choose_spec.choose_spec.2.1
section
variable {w w' : World} {B : Nat}
set_option maxRecDepth 100000 in
set_option maxHeartbeats 4000000 in
theorem Less_x (a b : Str) (ha : okS a) (hb : okS b) (r : Bool) (hr : lessB a.toList b.toList = r) : Calls Tryd.prog 12 #[.string a, .string b] w (fun e w' => e = .returned (.bool r) ∧ Only (fun _ => False) w w') := by
 unfold lessB at hr
 obtain ⟨ma, hma⟩ : ∃ x, mayB a.toList = x := ⟨_, rfl⟩
 obtain ⟨mb, hmb⟩ : ∃ x, mayB b.toList = x := ⟨_, rfl⟩
 rw [hma, hmb] at hr
 have HMa : Hid (∀ W, Calls Tryd.prog 10 #[.string a] W (fun e w' => e = .returned (.bool ma) ∧ Only (fun _ => False) W w')) := fun W => May_x a ha ma hma
 have HMb : Hid (∀ W, Calls Tryd.prog 10 #[.string b] W (fun e w' => e = .returned (.bool mb) ∧ Only (fun _ => False) W w')) := fun W => May_x b hb mb hmb
 clear ha hb
 have HRes := Lib.hid hr
 have HMA := Lib.hid hma
 have HMB := Lib.hid hmb
 clear hr hma hmb
 go_enter Tryd.func12, Tryd.ntmps12
 cases ma with
 | false =>
  have hres : (!false && mb) = r := HRes.out
  have hres2 : mb = r := hres
  subst hres2
  clear HRes HMA hres
  go_wp2_with fail
  refine (HMa.out _).mono ?_
  rintro e w1 ⟨rfl, O1⟩
  have HO1 := Lib.hid O1
  clear O1
  go_wp2_with fail
  refine (HMa.out _).mono ?_
  rintro e w2 ⟨rfl, O2⟩
  have HO2 := Lib.hid (HO1.out.same O2)
  clear O2
  go_wp2_with fail
  refine (HMb.out _).mono ?_
  rintro e w3 ⟨rfl, O3⟩
  have HO3 := Lib.hid (HO2.out.same O3)
  clear O3
  go_wp2_with fail
  go_ret
  exact ⟨rfl, HO3.out⟩
 | true =>
  go_wp2_with fail
  refine (HMa.out _).mono ?_
  rintro e w1 ⟨rfl, O1⟩
  have HO1 := Lib.hid O1
  clear O1
  go_wp2_with fail
  refine (HMb.out _).mono ?_
  rintro e w2 ⟨rfl, O2⟩
  have HO2 := Lib.hid (HO1.out.same O2)
  clear O2
  cases mb with
  | false =>
   have hres : false = r := HRes.out
   subst hres
   clear HRes HMA HMB
   go_wp2_with fail
   refine (HMa.out _).mono ?_
   rintro e w3 ⟨rfl, O3⟩
   have HO3 := Lib.hid (HO2.out.same O3)
   clear O3
   go_wp2_with fail
   go_ret
   exact ⟨rfl, HO3.out⟩
  | true =>
   have hres : lessR (cutB 46 a.toList) (cutB 46 b.toList) (max (cutB 46 a.toList).length (cutB 46 b.toList).length) 0 = r := HRes.out
   have HCa := Lib.hid (Cut_x (w := w2) a (Nat.le_trans (mayB_size HMA.out) (by decide)) 46 46 rfl)
   have HCb : Hid (∀ W, _) := fun W => Cut_x (w := W) b (Nat.le_trans (mayB_size HMB.out) (by decide)) 46 46 rfl
   clear HMa HMb HRes
   have HRes := Lib.hid hres
   clear hres
   go_wp2_with fail
   refine HCa.out.mono ?_
   rintro e w3 ⟨va, rfl, hTa, O3⟩
   obtain ⟨la, hLa, hRa⟩ := hTa.row
   have HO3 := Lib.hid (HO2.out.same O3)
   obtain ⟨aa, ca, rfl, ka1, ka2⟩ := hRa.shape
   obtain ⟨na, hna⟩ : ∃ n, la.length = n := ⟨_, rfl⟩
   rw [hna] at hRa ka1 ⊢
   have HNa := Lib.hid hna
   have HLa := Lib.hid hLa
   clear hTa O3 hna HCa hLa
   go_wp2_with fail
   refine (HCb.out _).mono ?_
   rintro e w4 ⟨vb, rfl, hTb, O4⟩
   obtain ⟨lb, hLb, hRb⟩ := hTb.row
   have HO4 := Lib.hid (HO3.out.same O4)
   obtain ⟨ab, cb, rfl, kb1, kb2⟩ := hRb.shape
   obtain ⟨nb, hnb⟩ : ∃ n, lb.length = n := ⟨_, rfl⟩
   rw [hnb] at hRb kb1 ⊢
   have HAa : Hid (∀ W (i : Nat) (t : Str), i ≤ 1000000000 → la.getD i .empty = t → Only (fun _ => False) w4 W → Calls Tryd.prog 28 #[.slice aa na ca, .int .i64 (i : Int)] W (fun e w' => e = .returned (.string t) ∧ Only (fun _ => False) W w')) := fun W i t hi ht hW => at_x (hRa.keep StrC.keep (Kp.of0 (O4.same hW))) i hi t ht
   have HAb : Hid (∀ W (i : Nat) (t : Str), i ≤ 1000000000 → lb.getD i .empty = t → Only (fun _ => False) w4 W → Calls Tryd.prog 28 #[.slice ab nb cb, .int .i64 (i : Int)] W (fun e w' => e = .returned (.string t) ∧ Only (fun _ => False) W w')) := fun W i t hi ht hW => at_x (hRb.keep StrC.keep (Kp.of0 hW)) i hi t ht
   have HKa : Hid (∀ i, okS (la.getD i .empty)) := fun i => hRa.getD_ok i
   have HKb : Hid (∀ i, okS (lb.getD i .empty)) := fun i => hRb.getD_ok i
   obtain ⟨m, hm⟩ : ∃ m, max na nb = m := ⟨_, rfl⟩
   have hm1 : m ≤ 1000000000 := by
    have h1 := mayB_len HMA.out
    have h2 := mayB_len HMB.out
    rw [← HLa.out, List.length_map, HNa.out] at h1
    rw [← hLb, List.length_map, hnb] at h2
    omega
   have HR0 : Hid (lessR (la.map ByteArray.toList) (lb.map ByteArray.toList) m 0 = r) := by
    have h := HRes.out
    rw [← HLa.out, ← hLb, List.length_map, List.length_map, HNa.out, hnb, hm] at h
    exact h
   have HM := Lib.hid hm
   have HOC : Hid (Only (fun _ => False) w4 w4) := Only.refl _ _
   clear hTb O4 hnb HCb hRa hRb hm HRes HLa hLb HNa HMA HMB
   go_wp2_with fail
   go_loopw [7] (fun vi wri => Hid (Only (fun _ => False) w4 wri) ∧ ∃ i : Nat, vi = .int .i64 i ∧ i ≤ m ∧ Hid (lessR (la.map ByteArray.toList) (lb.map ByteArray.toList) (m - i) i = r)) (fun v _ => m - (RowKit.intOf v).toNat)
   case atStart => exact ⟨HOC, 0, rfl, Nat.zero_le _, HR0⟩
   case round =>
    obtain ⟨wri, rfl⟩ : ∃ W, W = wr := ⟨_, rfl⟩
    clear HOC HR0
    obtain ⟨HOi, i, rfl, hi, HRi⟩ := hrel
    by_cases ci : i < m
    ·have ewi : IntKind.i64.wrap ((i : Int) + 1) = (i : Int) + 1 := by rw [IntKind.wrap_i64]; omega
     have hor : i < na ∨ i < nb := by have := HM.out; omega
     obtain ⟨t1, h1⟩ : ∃ t, la.getD i .empty = t := ⟨_, rfl⟩
     obtain ⟨t2, h2⟩ : ∃ t, lb.getD i .empty = t := ⟨_, rfl⟩
     have k1 := HKa.out i
     have k2 := HKb.out i
     rw [h1] at k1
     rw [h2] at k2
     obtain ⟨b1, hb1⟩ : ∃ x, beB t1.toList t2.toList = x := ⟨_, rfl⟩
     obtain ⟨b2, hb2⟩ : ∃ x, beB t2.toList t1.toList = x := ⟨_, rfl⟩
     have HRj : Hid ((if b1 = true then true else if b2 = true then false else lessR (la.map ByteArray.toList) (lb.map ByteArray.toList) (m - (i + 1)) (i + 1)) = r) := by
      have h := HRi.out
      obtain ⟨k, hk⟩ : ∃ k, m - i = k + 1 := ⟨m - i - 1, by omega⟩
      have hk2 : m - (i + 1) = k := by omega
      rw [hk, lessR, getD_map_toList, getD_map_toList, h1, h2, hb1, hb2] at h
      rw [hk2]
      exact h
     have HB1 : Hid (∀ W, Calls Tryd.prog 27 #[.string t1, .string t2] W (fun e w' => e = .returned (.bool b1) ∧ Only (fun _ => False) W w')) := fun W => before_x t1 t2 k1 k2 b1 hb1
     have HB2 : Hid (∀ W, Calls Tryd.prog 27 #[.string t2, .string t1] W (fun e w' => e = .returned (.bool b2) ∧ Only (fun _ => False) W w')) := fun W => before_x t2 t1 k2 k1 b2 hb2
     have H1 := Lib.hid h1
     have H2 := Lib.hid h2
     clear HRi h1 h2 k1 k2 hb1 hb2
     by_cases ca1 : i < na
     ·clear hor
      go_wp2_with fail
      refine (HAa.out _ i t1 (by omega) H1.out HOi.out).mono ?_
      rintro e w5 ⟨rfl, O5⟩
      have HO5 := Lib.hid (HOi.out.same O5)
      clear O5
      go_wp2_with fail
      refine (HAb.out _ i t2 (by omega) H2.out HO5.out).mono ?_
      rintro e w6 ⟨rfl, O6⟩
      have HO6 := Lib.hid (HO5.out.same O6)
      clear O6
      go_wp2_with fail
      refine (HB1.out _).mono ?_
      rintro e w7 ⟨rfl, O7⟩
      have HO7 := Lib.hid (HO6.out.same O7)
      clear O7 HB1
      cases b1 with
      | true =>
       have hr2 : true = r := HRj.out
       subst hr2
       clear HRj
       go_wp2_with fail
       go_ret
       exact ⟨rfl, HO4.out.same HO7.out⟩
      | false =>
       go_wp2_with fail
       refine (HAb.out _ i t2 (by omega) H2.out HO7.out).mono ?_
       rintro e w8 ⟨rfl, O8⟩
       have HO8 := Lib.hid (HO7.out.same O8)
       clear O8
       go_wp2_with fail
       refine (HAa.out _ i t1 (by omega) H1.out HO8.out).mono ?_
       rintro e w9 ⟨rfl, O9⟩
       have HO9 := Lib.hid (HO8.out.same O9)
       clear O9
       go_wp2_with fail
       refine (HB2.out _).mono ?_
       rintro e w10 ⟨rfl, O10⟩
       have HO10 := Lib.hid (HO9.out.same O10)
       clear O10 HB2
       cases b2 with
       | true =>
        have hr2 : false = r := HRj.out
        subst hr2
        clear HRj
        go_wp2_with fail
        go_ret
        exact ⟨rfl, HO4.out.same HO10.out⟩
       | false =>
        have HRk : Hid (lessR (la.map ByteArray.toList) (lb.map ByteArray.toList) (m - (i + 1)) (i + 1) = r) := HRj.out
        go_wp2_with fail
        go_roundw
        case rel => exact ⟨HO10, i + 1, by first | rfl | go_num, by omega, HRk⟩
        case measure => simp [RowKit.intOf] <;> omega
     ·have cb1 : i < nb := by omega
      clear hor
      go_wp2_with fail
      refine (HAa.out _ i t1 (by omega) H1.out HOi.out).mono ?_
      rintro e w5 ⟨rfl, O5⟩
      have HO5 := Lib.hid (HOi.out.same O5)
      clear O5
      go_wp2_with fail
      refine (HAb.out _ i t2 (by omega) H2.out HO5.out).mono ?_
      rintro e w6 ⟨rfl, O6⟩
      have HO6 := Lib.hid (HO5.out.same O6)
      clear O6
      go_wp2_with fail
      refine (HB1.out _).mono ?_
      rintro e w7 ⟨rfl, O7⟩
      have HO7 := Lib.hid (HO6.out.same O7)
      clear O7 HB1
      cases b1 with
      | true =>
       have hr2 : true = r := HRj.out
       subst hr2
       clear HRj
       go_wp2_with fail
       go_ret
       exact ⟨rfl, HO4.out.same HO7.out⟩
      | false =>
       go_wp2_with fail
       refine (HAb.out _ i t2 (by omega) H2.out HO7.out).mono ?_
       rintro e w8 ⟨rfl, O8⟩
       have HO8 := Lib.hid (HO7.out.same O8)
       clear O8
       go_wp2_with fail
       refine (HAa.out _ i t1 (by omega) H1.out HO8.out).mono ?_
       rintro e w9 ⟨rfl, O9⟩
       have HO9 := Lib.hid (HO8.out.same O9)
       clear O9
       go_wp2_with fail
       refine (HB2.out _).mono ?_
       rintro e w10 ⟨rfl, O10⟩
       have HO10 := Lib.hid (HO9.out.same O10)
       clear O10 HB2
       cases b2 with
       | true =>
        have hr2 : false = r := HRj.out
        subst hr2
        clear HRj
        go_wp2_with fail
        go_ret
        exact ⟨rfl, HO4.out.same HO10.out⟩
       | false =>
        have HRk : Hid (lessR (la.map ByteArray.toList) (lb.map ByteArray.toList) (m - (i + 1)) (i + 1) = r) := HRj.out
        go_wp2_with fail
        go_roundw
        case rel => exact ⟨HO10, i + 1, by first | rfl | go_num, by omega, HRk⟩
        case measure => simp [RowKit.intOf] <;> omega
    ·have c1 : ¬ i < na := by have := HM.out; omega
     have c2 : ¬ i < nb := by have := HM.out; omega
     have hr2 : false = r := by
      have h := HRi.out
      rw [show m - i = 0 by omega] at h
      exact h
     subst hr2
     clear HRi
     go_wp2_with fail
     go_ret
     exact ⟨rfl, HO4.out.same HOi.out⟩
end
end Go.Proofs.YtmlfchjompfmaaaDoor

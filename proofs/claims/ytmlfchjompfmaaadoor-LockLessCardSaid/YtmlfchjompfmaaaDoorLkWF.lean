/- Is a graph more than is gone through? A bool; false: it is small. -/
import Derived.Test.YtmlfchjompfmaaaDoorLkW9
import Derived.Test.YtmlfchjompfmaaaDoorRowB
import Derived.BigQuiet
set_option linter.unusedVariables false
namespace Go.Proofs.YtmlfchjompfmaaaDoor
open Go.RowKit
section
variable {w w' : World} {B : Nat}
def SmallS (l : List SetD) : Prop := l.length ≤ 50 ∧ ∀ s ∈ l, s.name.size ≤ 100 ∧ s.value.size ≤ 100
def GreatS (l : List SetD) (w w' : World) (e : Ending) : Prop := ∃ b, e = .returned (.bool b) ∧ Only (fun _ => False) w w' ∧ (b = false → SmallS l)
theorem GreatS.mk {l : List SetD} (b : Bool) {w w' : World} (ho : Only (fun _ => False) w w') (h : b = false → SmallS l) : GreatS l w w' (.returned (.bool b)) := ⟨b, rfl, ho, h⟩
theorem all_snoc {α : Type} {p : α → Prop} {l : List α} {i : Nat} {x : α} (h : ∀ s ∈ l.take i, p s) (hx : l[i]? = some x) (hp : p x) : ∀ s ∈ l.take (i + 1), p s := by
 intro s hs
 rw [List.take_add_one, hx] at hs
 rcases List.mem_append.1 hs with h1 | h1
 ·exact h s h1
 ·simp only [Option.toList_some, List.mem_singleton] at h1; rw [h1]; exact hp
set_option maxRecDepth 100000 in
set_option maxHeartbeats 2000000 in
theorem Great4_x {v : Value} {l : List SetD} (h : RowT 2 SetC B w v l) : Calls Tryd.prog 29 #[v] w (fun e w' => GreatS l w w' e) := by
 have H := Lib.hid h
 obtain ⟨ao, cap, rfl, k1, k2⟩ := h.shape
 obtain ⟨n, hn⟩ : ∃ n, l.length = n := ⟨_, rfl⟩
 have HN := Lib.hid hn
 rw [hn] at H k1 ⊢
 clear h hn
 by_cases c0 : 50 < n
 ·go_enter Tryd.func29, Tryd.ntmps29
  go_wp2_with fail
  go_ret
  exact GreatS.mk _ (Only.refl _ _) (fun h => by cases h)
 ·go_enter Tryd.func29, Tryd.ntmps29
  go_wp2_with fail
  go_loopw [3, 9] (fun _ vi wr => Hid (Only (fun _ => False) w wr) ∧ ∃ i : Nat, vi = .int .i64 i ∧ i ≤ n ∧ Hid (∀ s ∈ l.take i, s.name.size ≤ 100 ∧ s.value.size ≤ 100)) (fun _ v _ => n - (RowKit.intOf v).toNat)
  case atStart => exact ⟨Only.refl _ _, 0, rfl, Nat.zero_le _, fun s hs => by simp at hs⟩
  case round =>
   obtain ⟨HO, i, rfl, hi, HA⟩ := hrel
   by_cases ci : i < n
   ·have ewi : IntKind.i64.wrap ((i : Int) + 1) = (i : Int) + 1 := by rw [IntKind.wrap_i64]; omega
    obtain ⟨x, hx⟩ : ∃ x, l[i]? = some x := ⟨_, List.getElem?_eq_getElem (by rw [HN.out]; exact ci)⟩
    obtain ⟨b1, o1, he1, kx1, kx2, hE1⟩ := SetC_at (H.out.keep SetC.keep (Kp.of0 HO.out)) hx
    subst he1
    have HX := Lib.hid hx
    have HE := Lib.hid hE1
    clear hx hE1
    by_cases c1 : 100 < x.name.size
    ·have p0 := (HE.out wr (Only.refl _ _)).1 0 _ rfl
     have p1 := (HE.out wr (Only.refl _ _)).1 1 _ rfl
     rw [Nat.add_zero] at p0
     go_wp2_with fail
     go_ret
     exact GreatS.mk _ HO.out (fun h => by cases h)
    ·by_cases c2 : 100 < x.value.size
     ·have p0 := (HE.out wr (Only.refl _ _)).1 0 _ rfl
      have p1 := (HE.out wr (Only.refl _ _)).1 1 _ rfl
      rw [Nat.add_zero] at p0
      go_wp2_with fail
      go_ret
      exact GreatS.mk _ HO.out (fun h => by cases h)
     ·have p0 := (HE.out wr (Only.refl _ _)).1 0 _ rfl
      have p1 := (HE.out wr (Only.refl _ _)).1 1 _ rfl
      rw [Nat.add_zero] at p0
      have HA2 := Lib.hid (all_snoc HA.out HX.out ⟨Nat.le_of_not_lt c1, Nat.le_of_not_lt c2⟩)
      go_wp2_with fail
      go_roundw
      case rel => exact ⟨show Hid _ from HO.out, i + 1, by first | rfl | go_num, by omega, HA2⟩
      case measure => simp [RowKit.intOf] <;> omega
   ·obtain rfl : i = n := by omega
    go_wp2_with fail
    go_ret
    exact GreatS.mk _ HO.out (fun _ => ⟨by rw [HN.out]; omega, by have h := HA.out; rw [List.take_of_length_le (Nat.le_of_eq HN.out)] at h; exact h⟩)
def GreatGE (g : List NodeD) (w w' : World) (e : Ending) : Prop := ∃ b, e = .returned (.bool b) ∧ Only (fun _ => False) w w' ∧ (b = false → SmallG g)
theorem GreatGE.mk {g : List NodeD} (b : Bool) {w w' : World} (ho : Only (fun _ => False) w w') (h : b = false → SmallG g) : GreatGE g w w' (.returned (.bool b)) := ⟨b, rfl, ho, h⟩
set_option maxRecDepth 100000 in
set_option maxHeartbeats 4000000 in
theorem GreatG_x {v : Value} {g : List NodeD} (h : RowT 4 NodC B w v g) : Calls Tryd.prog 13 #[.agg #[v]] w (fun e w' => GreatGE g w w' e) := by
 have H := Lib.hid h
 obtain ⟨ao, cap, rfl, k1, k2⟩ := h.shape
 obtain ⟨n, hn⟩ : ∃ n, g.length = n := ⟨_, rfl⟩
 have HN := Lib.hid hn
 rw [hn] at H k1 ⊢
 clear h hn
 obtain ⟨w0, hw0⟩ : ∃ x, w.alloc (.cells #[.slice ao n cap] 39) = x := ⟨_, rfl⟩
 have ho0 : Only (fun _ => False) w w0 := by rw [← hw0]; exact (Only.refl _ _).alloc _
 have hb0 : w0.heap[w.heap.size]? = some (.cells #[.slice ao n cap] 39 (0, 0)) := by rw [← hw0]; exact heap_alloc_new _ _
 have HO0 := Lib.hid ho0
 have q0 : w0.cell? ⟨w.heap.size, 0, none⟩ = some (.slice ao n cap) := by rw [cell_block hb0]; rfl
 clear ho0 hb0
 by_cases c0 : 30 < n
 ·go_enter Tryd.func13, Tryd.ntmps13
  go_wp2_with fail
  go_ret
  exact GreatGE.mk _ HO0.out (fun h => by cases h)
 ·have hdn : decide (30 < n) = false := decide_eq_false c0
  have hdi : decide (30 < (n : Int)) = false := decide_eq_false (by omega)
  go_enter Tryd.func13, Tryd.ntmps13
  go_wp2_with fail
  go_loopw [4, 6, 14] (fun _ _ vi wr => Hid (Only (fun _ => False) w0 wr) ∧ ∃ i : Nat, vi = .int .i64 i ∧ i ≤ n ∧ Hid (∀ s ∈ g.take i, SmallN s)) (fun _ _ v _ => n - (RowKit.intOf v).toNat)
  case atStart => exact ⟨Only.refl _ _, 0, rfl, Nat.zero_le _, fun s hs => by simp at hs⟩
  case round =>
   obtain ⟨HO, i, rfl, hi, HA⟩ := hrel
   by_cases ci : i < n
   ·have ewi : IntKind.i64.wrap ((i : Int) + 1) = (i : Int) + 1 := by rw [IntKind.wrap_i64]; omega
    obtain ⟨x, hx⟩ : ∃ x, g[i]? = some x := ⟨_, List.getElem?_eq_getElem (by rw [HN.out]; exact ci)⟩
    obtain ⟨b, off, le, ca, p1, d1, p2, d2, he1, -, -, -, -, l3, l4, -, hE1⟩ := NodC_at (H.out.keep NodC.keep (Kp.of0 (HO0.out.same HO.out))) hx
    cases he1
    obtain ⟨N5, hN5⟩ : ∃ k, wr.heap.size = k := ⟨_, rfl⟩
    obtain ⟨s1, hs1⟩ : ∃ k, x.sets.length = k := ⟨_, rfl⟩
    obtain ⟨s2, hs2⟩ : ∃ k, x.needs.length = k := ⟨_, rfl⟩
    have HS1 := Lib.hid hs1
    have HS2 := Lib.hid hs2
    rw [hs1, hs2] at hE1
    rw [hs2] at l3
    have A1 := hE1 wr (Only.refl _ _)
    have q0 := A1.1 0 _ rfl
    have q1 := A1.1 1 _ rfl
    have q2 := A1.1 2 _ rfl
    have q3 := A1.1 3 _ rfl
    rw [Nat.add_zero] at q0
    obtain ⟨wn, hwn⟩ : ∃ W, wr.alloc (.cells #[.string x.name, .string x.version, .slice p1 s1 d1, .slice p2 s2 d2] 80) = W := ⟨_, rfl⟩
    have hbn : wn.heap[N5]? = some (.cells #[.string x.name, .string x.version, .slice p1 s1 d1, .slice p2 s2 d2] 80 (0, 0)) := by rw [← hwn, ← hN5]; exact heap_alloc_new _ _
    have on : Only (fun _ => False) wr wn := by rw [← hwn]; exact (Only.refl _ _).alloc _
    have HCm : Hid (∀ W, Only (fun _ => False) wn W → W.cell? ⟨N5, 0, none⟩ = some (.string x.name) ∧ W.cell? ⟨N5, 1, none⟩ = some (.string x.version) ∧ W.cell? ⟨N5, 2, none⟩ = some (.slice p1 s1 d1) ∧ W.cell? ⟨N5, 3, none⟩ = some (.slice p2 s2 d2)) := fun W o => by
     have e1 := only_block hbn o (fun f => f)
     exact ⟨by rw [cell_block e1]; rfl, by rw [cell_block e1]; rfl, by rw [cell_block e1]; rfl, by rw [cell_block e1]; rfl⟩
    have HOn := Lib.hid (HO0.out.same (HO.out.same on))
    have HOm := Lib.hid (HO.out.same on)
    have HE1 : Hid (∀ W, Only (fun _ => False) wn W → RowT 2 SetC B W (.slice p1 s1 d1) x.sets ∧ RowT 1 StrC B W (.slice p2 s2 d2) x.needs) := fun W o => (hE1 W (on.same o)).2
    have HX := Lib.hid hx
    obtain ⟨n0, n1', n2', n3'⟩ := HCm.out wn (Only.refl _ _)
    clear hx hE1 A1 on hbn hs1 hs2
    by_cases c1 : 100 < x.name.size
    ·go_wp2_with fail
     go_ret
     exact GreatGE.mk _ HOn.out (fun h => by cases h)
    ·by_cases c2 : 100 < x.version.size
     ·go_wp2_with fail
      go_ret
      exact GreatGE.mk _ HOn.out (fun h => by cases h)
     ·have t1 : decide (100 < x.name.size) = false := decide_eq_false c1
      have t2 : decide (100 < (x.name.size : Int)) = false := decide_eq_false (by omega)
      have t3 : decide (100 < x.version.size) = false := decide_eq_false c2
      have t4 : decide (100 < (x.version.size : Int)) = false := decide_eq_false (by omega)
      go_wp2_with fail
      refine (Great4_x (HE1.out _ (Only.refl _ _)).1).mono ?_
      rintro e w5 ⟨gb, rfl, O5, hgb⟩
      have HO5 := Lib.hid O5
      have HGb := Lib.hid hgb
      obtain ⟨m0, m1, m2, m3⟩ := HCm.out w5 O5
      clear O5 hgb
      cases gb with
      | true =>
       go_wp2_with fail
       go_ret
       exact GreatGE.mk _ (HOn.out.same HO5.out) (fun h => by cases h)
      | false =>
       by_cases c3 : 50 < s2
       ·go_wp2_with fail
        go_ret
        exact GreatGE.mk _ (HOn.out.same HO5.out) (fun h => by cases h)
       ·have t5 : decide (50 < s2) = false := decide_eq_false c3
        have t6 : decide (50 < (s2 : Int)) = false := decide_eq_false (by omega)
        go_wp2_with fail
        go_loopw [6, 42] (fun _ vi wq => Hid (Only (fun _ => False) w5 wq) ∧ ∃ j : Nat, vi = .int .i64 j ∧ j ≤ s2 ∧ Hid (∀ s ∈ x.needs.take j, s.size ≤ 100)) (fun _ v _ => s2 - (RowKit.intOf v).toNat)
        case atStart => exact ⟨Only.refl _ _, 0, rfl, Nat.zero_le _, fun s hs => by simp at hs⟩
        case round =>
         obtain ⟨HOj, j, rfl, hj, HB⟩ := hrel
         by_cases cj : j < s2
         ·have ewj : IntKind.i64.wrap ((j : Int) + 1) = (j : Int) + 1 := by rw [IntKind.wrap_i64]; omega
          obtain ⟨y, hy⟩ : ∃ y, x.needs[j]? = some y := ⟨_, List.getElem?_eq_getElem (by rw [HS2.out]; exact cj)⟩
          obtain ⟨b2, o2, he2, ky, hE2⟩ := StrC_at ((HE1.out _ HO5.out).2.keep StrC.keep (Kp.of0 HOj.out)) hy
          subst he2
          have y0 := (hE2 _ (Only.refl _ _)).1 0 _ rfl
          rw [Nat.add_zero, Nat.mul_one] at y0
          have HY := Lib.hid hy
          clear hy hE2
          by_cases c4 : 100 < y.size
          ·go_wp2_with fail
           go_ret
           exact GreatGE.mk _ (HOn.out.same (HO5.out.same HOj.out)) (fun h => by cases h)
          ·have HB2 := Lib.hid (all_snoc HB.out HY.out (Nat.le_of_not_lt c4))
           go_wp2_with fail
           go_roundw
           case rel => exact ⟨HOj, j + 1, by first | rfl | go_num, by omega, HB2⟩
           case measure => simp [RowKit.intOf] <;> omega
         ·obtain rfl : j = s2 := by omega
          have hall : SmallN x := ⟨Nat.le_of_not_lt c1, Nat.le_of_not_lt c2, (HGb.out (by trivial)).1, (HGb.out (by trivial)).2, by rw [HS2.out]; omega, by have h := HB.out; rw [List.take_of_length_le (Nat.le_of_eq HS2.out)] at h; exact h⟩
          have HA2 := Lib.hid (all_snoc HA.out HX.out hall)
          have HO7 := Lib.hid (HOm.out.same (HO5.out.same HOj.out))
          clear hall
          go_wp2_with fail
          go_roundw
          case rel => exact ⟨HO7, i + 1, by first | rfl | go_num, by omega, HA2⟩
          case measure => simp [RowKit.intOf] <;> omega
   ·obtain rfl : i = n := by omega
    go_wp2_with fail
    go_ret
    exact GreatGE.mk _ (HO0.out.same HO.out) (fun _ => ⟨by rw [HN.out]; omega, by have h := HA.out; rw [List.take_of_length_le (Nat.le_of_eq HN.out)] at h; exact h⟩)
end
end Go.Proofs.YtmlfchjompfmaaaDoor

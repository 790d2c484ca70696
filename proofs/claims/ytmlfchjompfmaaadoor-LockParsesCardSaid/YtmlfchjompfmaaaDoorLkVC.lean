/- LkWC LkWD, in one text. -/
import Derived.Test.YtmlfchjompfmaaaDoorLkM
import Derived.Test.YtmlfchjompfmaaaDoorRowB
import Derived.Laws.StructEq
import Derived.BigQuiet
set_option linter.unusedVariables false
namespace Go.Proofs.YtmlfchjompfmaaaDoor
open Go.RowKit
theorem fieldsSet : (Tryd.prog.fieldsOf 60).toList = [{ name := "Name", type := 9, offset := 0, embedded := false, tag := "", pkgPath := "", byteOffset := 0 }, { name := "Value", type := 9, offset := 1, embedded := false, tag := "", pkgPath := "", byteOffset := 16 }] := by kernel_rfl
theorem neq_set (w : World) (a b c d : Str) : (binOp .neq 60 (.agg #[.string a, .string b]) (.agg #[.string c, .string d])).run Tryd.prog w = .ok (.bool (!(a.toList == c.toList && b.toList == d.toList))) w := by
 have hu : Tryd.prog.underlying 60 = some (.struct (Tryd.prog.fieldsOf 60)) := by kernel_rfl
 have hp : Tryd.prog.stoodInHeld 60 = false := by kernel_rfl
 have hs := Tryd.underlying9
 have ha := Tryd.isAgg9
 rw [run_neq_struct, run_equalIn_agg w 9999 _ _ _ hu hp, fieldsSet]
 simp [Op.eqFields, go_sem, part, ha]
 by_cases h1 : a.toList = c.toList <;> by_cases h2 : b.toList = d.toList <;> simp [h1, h2]
theorem take_alike {α : Type} {l m : List α} {i : Nat} {x y : α} (hl : l[i]? = some x) (hm : m[i]? = some y) (h : l.take i = m.take i) (hxy : x = y) : l.take (i + 1) = m.take (i + 1) := by rw [List.take_add_one, List.take_add_one, hl, hm, h, hxy]
section
variable {w w' : World} {B B2 : Nat}
set_option maxRecDepth 100000 in
set_option maxHeartbeats 2000000 in
theorem RSameS_x {v1 v2 : Value} {l1 l2 : List Str} (h1 : RowT 1 StrC B w v1 l1) (h2 : RowT 1 StrC B2 w v2 l2) (r : Bool) (hr : r = true ↔ l1 = l2) :
  Calls Tryd.prog 62 #[v1, v2] w (fun e w' => e = .returned (.bool r) ∧ Only (fun _ => False) w w') := by
 have H1 := Lib.hid h1
 have H2 := Lib.hid h2
 obtain ⟨a1, c1, rfl, k1, k2⟩ := h1.shape
 obtain ⟨a2, c2, rfl, k3, k4⟩ := h2.shape
 obtain ⟨n1, hn1⟩ : ∃ n, l1.length = n := ⟨_, rfl⟩
 obtain ⟨n2, hn2⟩ : ∃ n, l2.length = n := ⟨_, rfl⟩
 have HN1 := Lib.hid hn1
 have HN2 := Lib.hid hn2
 have HR := Lib.hid hr
 rw [hn1] at k1 H1 ⊢
 rw [hn2] at k3 H2 ⊢
 have hno : l1 ≠ l2 → r = false := fun h => by
  cases hh : r with
  | false => rfl
  | true => exact absurd (HR.out.1 hh) h
 have HNo := Lib.hid hno
 clear h1 h2 hn1 hn2 hr hno
 by_cases cn : n1 = n2
 ·subst cn
  have hne : ((n1 : Int) == (n1 : Int)) = true := by simp
  go_enter Tryd.func62, Tryd.ntmps62
  go_wp2_with fail
  go_loopw [13] (fun vi wr => Hid (Only (fun _ => False) w wr) ∧ ∃ i : Nat, vi = .int .i64 i ∧ i ≤ n1 ∧ Hid (l1.take i = l2.take i)) (fun v _ => n1 - (RowKit.intOf v).toNat)
  case atStart => exact ⟨Only.refl _ _, 0, rfl, Nat.zero_le _, rfl⟩
  case round =>
   obtain ⟨HO, i, rfl, hi, HT⟩ := hrel
   by_cases ci : i < n1
   ·have ewi : IntKind.i64.wrap ((i : Int) + 1) = (i : Int) + 1 := by rw [IntKind.wrap_i64]; omega
    obtain ⟨x, hx⟩ : ∃ x, l1[i]? = some x := ⟨_, List.getElem?_eq_getElem (by rw [HN1.out]; exact ci)⟩
    obtain ⟨y, hy⟩ : ∃ y, l2[i]? = some y := ⟨_, List.getElem?_eq_getElem (by rw [HN2.out]; exact ci)⟩
    obtain ⟨b1, o1, he1, -, hE1⟩ := StrC_at (H1.out.keep StrC.keep (Kp.of0 HO.out)) hx
    obtain ⟨b2, o2, he2, -, hE2⟩ := StrC_at (H2.out.keep StrC.keep (Kp.of0 HO.out)) hy
    subst he1
    subst he2
    have p0 := (hE1 wr (Only.refl _ _)).1 0 _ rfl
    have p1 := (hE2 wr (Only.refl _ _)).1 0 _ rfl
    rw [Nat.add_zero, Nat.mul_one] at p0 p1
    by_cases e : x = y
    ·have HT2 := Lib.hid (take_alike hx hy HT.out e)
     have hd : (x.toList == y.toList) = true := by rw [e]; exact beq_self_eq_true _
     clear hx hy hE1 hE2 e
     go_wp2_with fail
     go_quiet (fail)
     go_wp2_with fail
     go_roundw
     case rel => exact ⟨show Hid _ from HO.out.drewN _, i + 1, by first | rfl | go_num, by omega, HT2⟩
     case measure => simp [RowKit.intOf] <;> omega
    ·have hrf : r = false := HNo.out fun h => e (by rw [h] at hx; exact Option.some.inj (hx.symm.trans hy))
     subst hrf
     have hd : (x.toList == y.toList) = false := by rw [beq_eq_false_iff_ne]; exact fun h => e (toList_inj h)
     clear hx hy hE1 hE2 e
     go_wp2_with fail
     go_quiet (fail)
     go_wp2_with fail
     go_ret
     exact ⟨rfl, HO.out.drewN _⟩
   ·obtain rfl : i = n1 := by omega
    have hrt : r = true := HR.out.2 (by have h := HT.out; rw [List.take_of_length_le (Nat.le_of_eq HN1.out), List.take_of_length_le (Nat.le_of_eq HN2.out)] at h; exact h)
    subst hrt
    go_wp2_with fail
    go_ret
    exact ⟨rfl, HO.out⟩
 ·have hrf : r = false := HNo.out fun h => cn (by rw [← HN1.out, ← HN2.out, h])
  subst hrf
  have hne : ((n1 : Int) == (n2 : Int)) = false := by rw [beq_eq_false_iff_ne]; omega
  go_enter Tryd.func62, Tryd.ntmps62
  go_wp2_with fail
  go_ret
  exact ⟨rfl, Only.refl _ _⟩
set_option maxRecDepth 100000 in
set_option maxHeartbeats 2000000 in
theorem EqualS_x {v1 v2 : Value} {l1 l2 : List Str} (h1 : RowT 1 StrC B w v1 l1) (h2 : RowT 1 StrC B2 w v2 l2) (r : Bool) (hr : r = true ↔ l1 = l2) :
  Calls Tryd.prog 60 #[v1, v2] w (fun e w' => e = .returned (.bool r) ∧ Only (fun _ => False) w w') := by
 have H1 := Lib.hid h1
 have H2 := Lib.hid h2
 obtain ⟨a1, c1, rfl, k1, k2⟩ := h1.shape
 obtain ⟨a2, c2, rfl, k3, k4⟩ := h2.shape
 obtain ⟨n1, hn1⟩ : ∃ n, l1.length = n := ⟨_, rfl⟩
 obtain ⟨n2, hn2⟩ : ∃ n, l2.length = n := ⟨_, rfl⟩
 have HN1 := Lib.hid hn1
 have HN2 := Lib.hid hn2
 have HR := Lib.hid hr
 rw [hn1] at k1 H1 ⊢
 rw [hn2] at k3 H2 ⊢
 have hno : l1 ≠ l2 → r = false := fun h => by
  cases hh : r with
  | false => rfl
  | true => exact absurd (HR.out.1 hh) h
 have HNo := Lib.hid hno
 clear h1 h2 hn1 hn2 hr hno
 by_cases cn : n1 = n2
 ·subst cn
  have hne : ((n1 : Int) == (n1 : Int)) = true := by simp
  go_enter Tryd.func60, Tryd.ntmps60
  go_wp2_with fail
  go_loopw [13] (fun vi wr => Hid (Only (fun _ => False) w wr) ∧ ∃ i : Nat, vi = .int .i64 i ∧ i ≤ n1 ∧ Hid (l1.take i = l2.take i)) (fun v _ => n1 - (RowKit.intOf v).toNat)
  case atStart => exact ⟨Only.refl _ _, 0, rfl, Nat.zero_le _, rfl⟩
  case round =>
   obtain ⟨HO, i, rfl, hi, HT⟩ := hrel
   by_cases ci : i < n1
   ·have ewi : IntKind.i64.wrap ((i : Int) + 1) = (i : Int) + 1 := by rw [IntKind.wrap_i64]; omega
    obtain ⟨x, hx⟩ : ∃ x, l1[i]? = some x := ⟨_, List.getElem?_eq_getElem (by rw [HN1.out]; exact ci)⟩
    obtain ⟨y, hy⟩ : ∃ y, l2[i]? = some y := ⟨_, List.getElem?_eq_getElem (by rw [HN2.out]; exact ci)⟩
    obtain ⟨b1, o1, he1, -, hE1⟩ := StrC_at (H1.out.keep StrC.keep (Kp.of0 HO.out)) hx
    obtain ⟨b2, o2, he2, -, hE2⟩ := StrC_at (H2.out.keep StrC.keep (Kp.of0 HO.out)) hy
    subst he1
    subst he2
    have p0 := (hE1 wr (Only.refl _ _)).1 0 _ rfl
    have p1 := (hE2 wr (Only.refl _ _)).1 0 _ rfl
    rw [Nat.add_zero, Nat.mul_one] at p0 p1
    by_cases e : x = y
    ·have HT2 := Lib.hid (take_alike hx hy HT.out e)
     have hd : (x.toList == y.toList) = true := by rw [e]; exact beq_self_eq_true _
     clear hx hy hE1 hE2 e
     go_wp2_with fail
     go_quiet (fail)
     go_wp2_with fail
     go_roundw
     case rel => exact ⟨show Hid _ from HO.out.drewN _, i + 1, by first | rfl | go_num, by omega, HT2⟩
     case measure => simp [RowKit.intOf] <;> omega
    ·have hrf : r = false := HNo.out fun h => e (by rw [h] at hx; exact Option.some.inj (hx.symm.trans hy))
     subst hrf
     have hd : (x.toList == y.toList) = false := by rw [beq_eq_false_iff_ne]; exact fun h => e (toList_inj h)
     clear hx hy hE1 hE2 e
     go_wp2_with fail
     go_quiet (fail)
     go_wp2_with fail
     go_ret
     exact ⟨rfl, HO.out.drewN _⟩
   ·obtain rfl : i = n1 := by omega
    have hrt : r = true := HR.out.2 (by have h := HT.out; rw [List.take_of_length_le (Nat.le_of_eq HN1.out), List.take_of_length_le (Nat.le_of_eq HN2.out)] at h; exact h)
    subst hrt
    go_wp2_with fail
    go_ret
    exact ⟨rfl, HO.out⟩
 ·have hrf : r = false := HNo.out fun h => cn (by rw [← HN1.out, ← HN2.out, h])
  subst hrf
  have hne : ((n1 : Int) == (n2 : Int)) = false := by rw [beq_eq_false_iff_ne]; omega
  go_enter Tryd.func60, Tryd.ntmps60
  go_wp2_with fail
  go_ret
  exact ⟨rfl, Only.refl _ _⟩
set_option maxRecDepth 100000 in
set_option maxHeartbeats 2000000 in
theorem RSameT_x {v1 v2 : Value} {l1 l2 : List SetD} (h1 : RowT 2 SetC B w v1 l1) (h2 : RowT 2 SetC B2 w v2 l2) (r : Bool) (hr : r = true ↔ l1 = l2) :
  Calls Tryd.prog 61 #[v1, v2] w (fun e w' => e = .returned (.bool r) ∧ Only (fun _ => False) w w') := by
 have H1 := Lib.hid h1
 have H2 := Lib.hid h2
 obtain ⟨a1, c1, rfl, k1, k2⟩ := h1.shape
 obtain ⟨a2, c2, rfl, k3, k4⟩ := h2.shape
 obtain ⟨n1, hn1⟩ : ∃ n, l1.length = n := ⟨_, rfl⟩
 obtain ⟨n2, hn2⟩ : ∃ n, l2.length = n := ⟨_, rfl⟩
 have HN1 := Lib.hid hn1
 have HN2 := Lib.hid hn2
 have HR := Lib.hid hr
 rw [hn1] at k1 H1 ⊢
 rw [hn2] at k3 H2 ⊢
 have hno : l1 ≠ l2 → r = false := fun h => by
  cases hh : r with
  | false => rfl
  | true => exact absurd (HR.out.1 hh) h
 have HNo := Lib.hid hno
 clear h1 h2 hn1 hn2 hr hno
 by_cases cn : n1 = n2
 ·subst cn
  have hne : ((n1 : Int) == (n1 : Int)) = true := by simp
  go_enter Tryd.func61, Tryd.ntmps61
  go_wp2_with fail
  go_loopw [13] (fun vi wr => Hid (Only (fun _ => False) w wr) ∧ ∃ i : Nat, vi = .int .i64 i ∧ i ≤ n1 ∧ Hid (l1.take i = l2.take i)) (fun v _ => n1 - (RowKit.intOf v).toNat)
  case atStart => exact ⟨Only.refl _ _, 0, rfl, Nat.zero_le _, rfl⟩
  case round =>
   obtain ⟨HO, i, rfl, hi, HT⟩ := hrel
   by_cases ci : i < n1
   ·have ewi : IntKind.i64.wrap ((i : Int) + 1) = (i : Int) + 1 := by rw [IntKind.wrap_i64]; omega
    obtain ⟨x, hx⟩ : ∃ x, l1[i]? = some x := ⟨_, List.getElem?_eq_getElem (by rw [HN1.out]; exact ci)⟩
    obtain ⟨y, hy⟩ : ∃ y, l2[i]? = some y := ⟨_, List.getElem?_eq_getElem (by rw [HN2.out]; exact ci)⟩
    obtain ⟨b1, o1, he1, -, -, hE1⟩ := SetC_at (H1.out.keep SetC.keep (Kp.of0 HO.out)) hx
    obtain ⟨b2, o2, he2, -, -, hE2⟩ := SetC_at (H2.out.keep SetC.keep (Kp.of0 HO.out)) hy
    subst he1
    subst he2
    have p0 := (hE1 wr (Only.refl _ _)).1 0 _ rfl
    have p1 := (hE1 wr (Only.refl _ _)).1 1 _ rfl
    have p2 := (hE2 wr (Only.refl _ _)).1 0 _ rfl
    have p3 := (hE2 wr (Only.refl _ _)).1 1 _ rfl
    rw [Nat.add_zero] at p0 p2
    by_cases e : x = y
    ·have HT2 := Lib.hid (take_alike hx hy HT.out e)
     have hd : (x.name.toList == y.name.toList && x.value.toList == y.value.toList) = true := by rw [e]; simp
     have hq : ∀ W, (binOp .neq 60 (.agg #[.string x.name, .string x.value]) (.agg #[.string y.name, .string y.value])).run Tryd.prog W = .ok (.bool false) W := fun W => by rw [neq_set, hd]; rfl
     clear hx hy hE1 hE2 e
     go_wp2_with fail
     go_quiet (fail)
     go_wp2_with fail
     go_roundw
     case rel => exact ⟨show Hid _ from HO.out.drewN _, i + 1, by first | rfl | go_num, by omega, HT2⟩
     case measure => simp [RowKit.intOf] <;> omega
    ·have hrf : r = false := HNo.out fun h => e (by rw [h] at hx; exact Option.some.inj (hx.symm.trans hy))
     subst hrf
     have hd : (x.name.toList == y.name.toList && x.value.toList == y.value.toList) = false := by
      rw [Bool.and_eq_false_iff]
      by_cases h : x.name = y.name
      ·exact .inr (by rw [beq_eq_false_iff_ne]; exact fun h2 => e (by obtain ⟨a, b⟩ := x; obtain ⟨c, d⟩ := y; simp only at h h2; rw [h, toList_inj h2]))
      ·exact .inl (by rw [beq_eq_false_iff_ne]; exact fun h2 => h (toList_inj h2))
     have hq : ∀ W, (binOp .neq 60 (.agg #[.string x.name, .string x.value]) (.agg #[.string y.name, .string y.value])).run Tryd.prog W = .ok (.bool true) W := fun W => by rw [neq_set, hd]; rfl
     clear hx hy hE1 hE2 e
     go_wp2_with fail
     go_quiet (fail)
     go_wp2_with fail
     go_ret
     exact ⟨rfl, HO.out.drewN _⟩
   ·obtain rfl : i = n1 := by omega
    have hrt : r = true := HR.out.2 (by have h := HT.out; rw [List.take_of_length_le (Nat.le_of_eq HN1.out), List.take_of_length_le (Nat.le_of_eq HN2.out)] at h; exact h)
    subst hrt
    go_wp2_with fail
    go_ret
    exact ⟨rfl, HO.out⟩
 ·have hrf : r = false := HNo.out fun h => cn (by rw [← HN1.out, ← HN2.out, h])
  subst hrf
  have hne : ((n1 : Int) == (n2 : Int)) = false := by rw [beq_eq_false_iff_ne]; omega
  go_enter Tryd.func61, Tryd.ntmps61
  go_wp2_with fail
  go_ret
  exact ⟨rfl, Only.refl _ _⟩
set_option maxRecDepth 100000 in
set_option maxHeartbeats 2000000 in
theorem EqualT_x {v1 v2 : Value} {l1 l2 : List SetD} (h1 : RowT 2 SetC B w v1 l1) (h2 : RowT 2 SetC B2 w v2 l2) (r : Bool) (hr : r = true ↔ l1 = l2) :
  Calls Tryd.prog 59 #[v1, v2] w (fun e w' => e = .returned (.bool r) ∧ Only (fun _ => False) w w') := by
 have H1 := Lib.hid h1
 have H2 := Lib.hid h2
 obtain ⟨a1, c1, rfl, k1, k2⟩ := h1.shape
 obtain ⟨a2, c2, rfl, k3, k4⟩ := h2.shape
 obtain ⟨n1, hn1⟩ : ∃ n, l1.length = n := ⟨_, rfl⟩
 obtain ⟨n2, hn2⟩ : ∃ n, l2.length = n := ⟨_, rfl⟩
 have HN1 := Lib.hid hn1
 have HN2 := Lib.hid hn2
 have HR := Lib.hid hr
 rw [hn1] at k1 H1 ⊢
 rw [hn2] at k3 H2 ⊢
 have hno : l1 ≠ l2 → r = false := fun h => by
  cases hh : r with
  | false => rfl
  | true => exact absurd (HR.out.1 hh) h
 have HNo := Lib.hid hno
 clear h1 h2 hn1 hn2 hr hno
 by_cases cn : n1 = n2
 ·subst cn
  have hne : ((n1 : Int) == (n1 : Int)) = true := by simp
  go_enter Tryd.func59, Tryd.ntmps59
  go_wp2_with fail
  go_loopw [13] (fun vi wr => Hid (Only (fun _ => False) w wr) ∧ ∃ i : Nat, vi = .int .i64 i ∧ i ≤ n1 ∧ Hid (l1.take i = l2.take i)) (fun v _ => n1 - (RowKit.intOf v).toNat)
  case atStart => exact ⟨Only.refl _ _, 0, rfl, Nat.zero_le _, rfl⟩
  case round =>
   obtain ⟨HO, i, rfl, hi, HT⟩ := hrel
   by_cases ci : i < n1
   ·have ewi : IntKind.i64.wrap ((i : Int) + 1) = (i : Int) + 1 := by rw [IntKind.wrap_i64]; omega
    obtain ⟨x, hx⟩ : ∃ x, l1[i]? = some x := ⟨_, List.getElem?_eq_getElem (by rw [HN1.out]; exact ci)⟩
    obtain ⟨y, hy⟩ : ∃ y, l2[i]? = some y := ⟨_, List.getElem?_eq_getElem (by rw [HN2.out]; exact ci)⟩
    obtain ⟨b1, o1, he1, -, -, hE1⟩ := SetC_at (H1.out.keep SetC.keep (Kp.of0 HO.out)) hx
    obtain ⟨b2, o2, he2, -, -, hE2⟩ := SetC_at (H2.out.keep SetC.keep (Kp.of0 HO.out)) hy
    subst he1
    subst he2
    have p0 := (hE1 wr (Only.refl _ _)).1 0 _ rfl
    have p1 := (hE1 wr (Only.refl _ _)).1 1 _ rfl
    have p2 := (hE2 wr (Only.refl _ _)).1 0 _ rfl
    have p3 := (hE2 wr (Only.refl _ _)).1 1 _ rfl
    rw [Nat.add_zero] at p0 p2
    by_cases e : x = y
    ·have HT2 := Lib.hid (take_alike hx hy HT.out e)
     have hd : (x.name.toList == y.name.toList && x.value.toList == y.value.toList) = true := by rw [e]; simp
     have hq : ∀ W, (binOp .neq 60 (.agg #[.string x.name, .string x.value]) (.agg #[.string y.name, .string y.value])).run Tryd.prog W = .ok (.bool false) W := fun W => by rw [neq_set, hd]; rfl
     clear hx hy hE1 hE2 e
     go_wp2_with fail
     go_quiet (fail)
     go_wp2_with fail
     go_roundw
     case rel => exact ⟨show Hid _ from HO.out.drewN _, i + 1, by first | rfl | go_num, by omega, HT2⟩
     case measure => simp [RowKit.intOf] <;> omega
    ·have hrf : r = false := HNo.out fun h => e (by rw [h] at hx; exact Option.some.inj (hx.symm.trans hy))
     subst hrf
     have hd : (x.name.toList == y.name.toList && x.value.toList == y.value.toList) = false := by
      rw [Bool.and_eq_false_iff]
      by_cases h : x.name = y.name
      ·exact .inr (by rw [beq_eq_false_iff_ne]; exact fun h2 => e (by obtain ⟨a, b⟩ := x; obtain ⟨c, d⟩ := y; simp only at h h2; rw [h, toList_inj h2]))
      ·exact .inl (by rw [beq_eq_false_iff_ne]; exact fun h2 => h (toList_inj h2))
     have hq : ∀ W, (binOp .neq 60 (.agg #[.string x.name, .string x.value]) (.agg #[.string y.name, .string y.value])).run Tryd.prog W = .ok (.bool true) W := fun W => by rw [neq_set, hd]; rfl
     clear hx hy hE1 hE2 e
     go_wp2_with fail
     go_quiet (fail)
     go_wp2_with fail
     go_ret
     exact ⟨rfl, HO.out.drewN _⟩
   ·obtain rfl : i = n1 := by omega
    have hrt : r = true := HR.out.2 (by have h := HT.out; rw [List.take_of_length_le (Nat.le_of_eq HN1.out), List.take_of_length_le (Nat.le_of_eq HN2.out)] at h; exact h)
    subst hrt
    go_wp2_with fail
    go_ret
    exact ⟨rfl, HO.out⟩
 ·have hrf : r = false := HNo.out fun h => cn (by rw [← HN1.out, ← HN2.out, h])
  subst hrf
  have hne : ((n1 : Int) == (n2 : Int)) = false := by rw [beq_eq_false_iff_ne]; omega
  go_enter Tryd.func59, Tryd.ntmps59
  go_wp2_with fail
  go_ret
  exact ⟨rfl, Only.refl _ _⟩
end
theorem NodeD.ext4 {x y : NodeD} (h1 : x.name = y.name) (h2 : x.version = y.version) (h3 : x.sets = y.sets) (h4 : x.needs = y.needs) : x = y := by
 obtain ⟨a, b, c, d⟩ := x; obtain ⟨a', b', c', d'⟩ := y
 simp only at h1 h2 h3 h4
 rw [h1, h2, h3, h4]
theorem strEq {a b : Str} (h : a = b) : (a.toList == b.toList) = true := by rw [h]; exact beq_self_eq_true _
theorem strNe {a b : Str} (h : a ≠ b) : (a.toList == b.toList) = false := by rw [beq_eq_false_iff_ne]; exact fun e => h (toList_inj e)
theorem boolOf (p : Prop) : ∃ r : Bool, r = true ↔ p := by
 by_cases h : p
 ·exact ⟨true, by simp [h]⟩
 ·exact ⟨false, by simp [h]⟩
section
variable {w w' : World} {B B2 : Nat}
set_option maxRecDepth 100000 in
set_option maxHeartbeats 2000000 in
theorem NodeSame_x {x y : NodeD} {a1 a2 a3 a4 : Option Addr} {c1 c2 c3 c4 : Nat} (s1 : RowT 2 SetC B w (.slice a1 x.sets.length c1) x.sets) (s2 : RowT 1 StrC B w (.slice a2 x.needs.length c2) x.needs) (t1 : RowT 2 SetC B2 w (.slice a3 y.sets.length c3) y.sets) (t2 : RowT 1 StrC B2 w (.slice a4 y.needs.length c4) y.needs) (r : Bool) (hr : r = true ↔ x = y) :
  Calls Tryd.prog 58 #[.agg #[.string x.name, .string x.version, .slice a1 x.sets.length c1, .slice a2 x.needs.length c2], .agg #[.string y.name, .string y.version, .slice a3 y.sets.length c3, .slice a4 y.needs.length c4]] w (fun e w' => e = .returned (.bool r) ∧ Only (fun _ => False) w w') := by
 have S1 := Lib.hid s1
 have S2 := Lib.hid s2
 have T1 := Lib.hid t1
 have T2 := Lib.hid t2
 obtain ⟨q1, hq1⟩ := boolOf (x.sets = y.sets)
 obtain ⟨q2, hq2⟩ := boolOf (x.needs = y.needs)
 have HQ1 := Lib.hid hq1
 have HQ2 := Lib.hid hq2
 have HR := Lib.hid hr
 have hno : x ≠ y → r = false := fun h => by
  cases hh : r with
  | false => rfl
  | true => exact absurd (HR.out.1 hh) h
 obtain ⟨n1, hn1⟩ : ∃ n, x.sets.length = n := ⟨_, rfl⟩
 obtain ⟨n2, hn2⟩ : ∃ n, x.needs.length = n := ⟨_, rfl⟩
 obtain ⟨n3, hn3⟩ : ∃ n, y.sets.length = n := ⟨_, rfl⟩
 obtain ⟨n4, hn4⟩ : ∃ n, y.needs.length = n := ⟨_, rfl⟩
 rw [hn1] at S1 ⊢
 rw [hn2] at S2 ⊢
 rw [hn3] at T1 ⊢
 rw [hn4] at T2 ⊢
 clear hn1 hn2 hn3 hn4
 by_cases e1 : x.name = y.name
 ·have h1 := strEq e1
  by_cases e2 : x.version = y.version
  ·have h2 := strEq e2
   have E1 := Lib.hid e1
   have E2 := Lib.hid e2
   have HNo := Lib.hid hno
   clear hq1 hq2 hr e1 e2 s1 s2 t1 t2 hno
   go_enter Tryd.func58, Tryd.ntmps58
   go_wp2_with fail
   have O2 : Only (fun _ => False) w _ := ((Only.refl _ w).alloc (.cells #[.string x.name, .string x.version, .slice a1 n1 c1, .slice a2 n2 c2] 80)).alloc (.cells #[.string y.name, .string y.version, .slice a3 n3 c3, .slice a4 n4 c4] 80)
   refine (EqualT_x (S1.out.keep SetC.keep (Kp.of0 O2)) (T1.out.keep SetC.keep (Kp.of0 O2)) q1 HQ1.out).mono ?_
   rintro e w1 ⟨rfl, O1⟩
   have p0 : w1.cell? ⟨w.heap.size, 3, none⟩ = some (.slice a2 n2 c2) := by
    rw [cell_block (only_block (only_block (heap_alloc_new w _) ((Only.refl (fun _ => False) _).alloc _) (fun f => f)) O1 (fun f => f))]; rfl
   have p1 : w1.cell? ⟨w.heap.size + 1, 3, none⟩ = some (.slice a4 n4 c4) := by
    have h := heap_alloc_new (w.alloc (.cells #[.string x.name, .string x.version, .slice a1 n1 c1, .slice a2 n2 c2] 80)) (.cells #[.string y.name, .string y.version, .slice a3 n3 c3, .slice a4 n4 c4] 80)
    rw [show (w.alloc (.cells #[.string x.name, .string x.version, .slice a1 n1 c1, .slice a2 n2 c2] 80)).heap.size = w.heap.size + 1 from Array.size_push _] at h
    rw [cell_block (only_block h O1 (fun f => f))]; rfl
   have HO := Lib.hid (O2.same O1)
   cases q1 with
   | false =>
    have hrf : r = false := HNo.out fun h => by have := HQ1.out.2 (by rw [h]); cases this
    subst hrf
    go_wp2_with fail
    go_ret
    exact ⟨rfl, HO.out⟩
   | true =>
    go_wp2_with fail
    refine (EqualS_x (S2.out.keep StrC.keep (Kp.of0 HO.out)) (T2.out.keep StrC.keep (Kp.of0 HO.out)) q2 HQ2.out).mono ?_
    rintro e w2 ⟨rfl, O3⟩
    obtain rfl : q2 = r := by
     cases q2 with
     | true => exact (HR.out.2 (NodeD.ext4 E1.out E2.out (HQ1.out.1 (by trivial)) (HQ2.out.1 (by trivial)))).symm
     | false => exact (HNo.out fun h => by have := HQ2.out.2 (by rw [h]); cases this).symm
    go_wp2_with fail
    go_ret
    exact ⟨rfl, HO.out.same O3⟩
  ·have h2 := strNe e2
   have hrf : r = false := hno fun h => e2 (by rw [h])
   subst hrf
   clear hq1 hq2 hr e1 e2 s1 s2 t1 t2 hno
   go_enter Tryd.func58, Tryd.ntmps58
   go_wp2_with fail
   go_ret
   exact ⟨rfl, (((Only.refl _ _).alloc _).alloc _)⟩
 ·have h1 := strNe e1
  have hrf : r = false := hno fun h => e1 (by rw [h])
  subst hrf
  clear hq1 hq2 hr e1 s1 s2 t1 t2 hno
  go_enter Tryd.func58, Tryd.ntmps58
  go_wp2_with fail
  go_ret
  exact ⟨rfl, (((Only.refl _ _).alloc _).alloc _)⟩
theorem enter_Same1 : ∀ args w, (callFunc 58 args).run Tryd.prog w = .ok (.enter 58 args) w := enters_of Tryd.func58 (by kernel_rfl) rfl
set_option maxRecDepth 100000 in
set_option maxHeartbeats 4000000 in
theorem EqualF_x {v1 v2 : Value} {l1 l2 : List NodeD} (h1 : RowT 4 NodC B w v1 l1) (h2 : RowT 4 NodC B2 w v2 l2) (r : Bool) (hr : r = true ↔ l1 = l2) :
  Calls Tryd.prog 57 #[v1, v2, .func (.func 58) #[] #[]] w (fun e w' => e = .returned (.bool r) ∧ Only (fun _ => False) w w') := by
 have eg := enter_Same1
 have H1 := Lib.hid h1
 have H2 := Lib.hid h2
 obtain ⟨a1, c1, rfl, k1, k2⟩ := h1.shape
 obtain ⟨a2, c2, rfl, k3, k4⟩ := h2.shape
 obtain ⟨n1, hn1⟩ : ∃ n, l1.length = n := ⟨_, rfl⟩
 obtain ⟨n2, hn2⟩ : ∃ n, l2.length = n := ⟨_, rfl⟩
 have HN1 := Lib.hid hn1
 have HN2 := Lib.hid hn2
 have HR := Lib.hid hr
 rw [hn1] at k1 H1 ⊢
 rw [hn2] at k3 H2 ⊢
 have hno : l1 ≠ l2 → r = false := fun h => by
  cases hh : r with
  | false => rfl
  | true => exact absurd (HR.out.1 hh) h
 have HNo := Lib.hid hno
 clear h1 h2 hn1 hn2 hr hno
 by_cases cn : n1 = n2
 ·subst cn
  have hne : ((n1 : Int) == (n1 : Int)) = true := by simp
  go_enter Tryd.func57, Tryd.ntmps57
  go_wp2_with fail
  go_loopw [7, 8, 9, 17] (fun _ _ _ vi wr => Hid (Only (fun _ => False) w wr) ∧ ∃ i : Nat, vi = .int .i64 i ∧ i ≤ n1 ∧ Hid (l1.take i = l2.take i)) (fun _ _ _ v _ => n1 - (RowKit.intOf v).toNat)
  case atStart => exact ⟨Only.refl _ _, 0, rfl, Nat.zero_le _, rfl⟩
  case round =>
   obtain ⟨HO, i, rfl, hi, HT⟩ := hrel
   by_cases ci : i < n1
   ·have ewi : IntKind.i64.wrap ((i : Int) + 1) = (i : Int) + 1 := by rw [IntKind.wrap_i64]; omega
    obtain ⟨x, hx⟩ : ∃ x, l1[i]? = some x := ⟨_, List.getElem?_eq_getElem (by rw [HN1.out]; exact ci)⟩
    obtain ⟨y, hy⟩ : ∃ y, l2[i]? = some y := ⟨_, List.getElem?_eq_getElem (by rw [HN2.out]; exact ci)⟩
    obtain ⟨b, off, le, ca, p1, d1, p2, d2, he1, -, -, -, -, -, -, -, hE1⟩ := NodC_at (H1.out.keep NodC.keep (Kp.of0 HO.out)) hx
    obtain ⟨b', off', le', ca', p3, d3, p4, d4, he2, -, -, -, -, -, -, -, hE2⟩ := NodC_at (H2.out.keep NodC.keep (Kp.of0 HO.out)) hy
    cases he1
    cases he2
    obtain ⟨q, hq⟩ := boolOf (x = y)
    obtain ⟨N5, hN5⟩ : ∃ k, wr.heap.size = k := ⟨_, rfl⟩
    have A1 := hE1 wr (Only.refl _ _)
    have q0 := A1.1 0 _ rfl
    have q1 := A1.1 1 _ rfl
    have q2 := A1.1 2 _ rfl
    have q3 := A1.1 3 _ rfl
    obtain ⟨wn, hwn⟩ : ∃ W, wr.alloc (.cells #[.string x.name, .string x.version, .slice p1 x.sets.length d1, .slice p2 x.needs.length d2] 80) = W := ⟨_, rfl⟩
    have hbn : wn.heap[N5]? = some (.cells #[.string x.name, .string x.version, .slice p1 x.sets.length d1, .slice p2 x.needs.length d2] 80 (0, 0)) := by rw [← hwn, ← hN5]; exact heap_alloc_new _ _
    have hsn : wn.heap.size = N5 + 1 := by rw [← hwn, ← hN5]; exact Array.size_push _
    have on : Only (fun _ => False) wr wn := by rw [← hwn]; exact (Only.refl _ _).alloc _
    have A2 := hE2 wn on
    have r0 := A2.1 0 _ rfl
    have r1 := A2.1 1 _ rfl
    have r2 := A2.1 2 _ rfl
    have r3 := A2.1 3 _ rfl
    rw [Nat.add_zero] at q0 r0
    obtain ⟨wm, hwm⟩ : ∃ W, wn.alloc (.cells #[.string y.name, .string y.version, .slice p3 y.sets.length d3, .slice p4 y.needs.length d4] 80) = W := ⟨_, rfl⟩
    have om : Only (fun _ => False) wn wm := by rw [← hwm]; exact (Only.refl _ _).alloc _
    have hbm : wm.heap[N5 + 1]? = some (.cells #[.string y.name, .string y.version, .slice p3 y.sets.length d3, .slice p4 y.needs.length d4] 80 (0, 0)) := by rw [← hwm, ← hsn]; exact heap_alloc_new _ _
    have hbn2 := only_block hbn om (fun f => f)
    have n0 : wm.cell? ⟨N5, 0, none⟩ = some (.string x.name) := by rw [cell_block hbn2]; rfl
    have n1' : wm.cell? ⟨N5, 1, none⟩ = some (.string x.version) := by rw [cell_block hbn2]; rfl
    have n2' : wm.cell? ⟨N5, 2, none⟩ = some (.slice p1 x.sets.length d1) := by rw [cell_block hbn2]; rfl
    have n3' : wm.cell? ⟨N5, 3, none⟩ = some (.slice p2 x.needs.length d2) := by rw [cell_block hbn2]; rfl
    have m0 : wm.cell? ⟨N5 + 1, 0, none⟩ = some (.string y.name) := by rw [cell_block hbm]; rfl
    have m1 : wm.cell? ⟨N5 + 1, 1, none⟩ = some (.string y.version) := by rw [cell_block hbm]; rfl
    have m2 : wm.cell? ⟨N5 + 1, 2, none⟩ = some (.slice p3 y.sets.length d3) := by rw [cell_block hbm]; rfl
    have m3 : wm.cell? ⟨N5 + 1, 3, none⟩ = some (.slice p4 y.needs.length d4) := by rw [cell_block hbm]; rfl
    have hom := on.same om
    have hc := NodeSame_x (hE1 wm hom).2.1 (hE1 wm hom).2.2 (hE2 wm hom).2.1 (hE2 wm hom).2.2 q hq
    have HC := Lib.hid hc
    have HOm := Lib.hid (HO.out.same hom)
    have HQ := Lib.hid hq
    have HX := Lib.hid hx
    have HY := Lib.hid hy
    clear hx hy hE1 hE2 A1 A2 hq hc hom on om hbn hbn2 hbm
    go_wp2_with fail
    refine HC.out.mono ?_
    rintro e w5 ⟨rfl, O5⟩
    have HO5 := Lib.hid (HOm.out.same O5)
    clear O5
    cases q with
    | true =>
     have HT2 := Lib.hid (take_alike HX.out HY.out HT.out (HQ.out.1 rfl))
     go_wp2_with fail
     go_roundw
     case rel => exact ⟨HO5, i + 1, by first | rfl | go_num, by omega, HT2⟩
     case measure => simp [RowKit.intOf] <;> omega
    | false =>
     have hrf : r = false := HNo.out fun h => by
      have h2 := HX.out
      rw [h, HY.out] at h2
      have := HQ.out.2 (Option.some.inj h2).symm
      cases this
     subst hrf
     go_wp2_with fail
     go_ret
     exact ⟨rfl, HO5.out⟩
   ·obtain rfl : i = n1 := by omega
    have hrt : r = true := HR.out.2 (by have h := HT.out; rw [List.take_of_length_le (Nat.le_of_eq HN1.out), List.take_of_length_le (Nat.le_of_eq HN2.out)] at h; exact h)
    subst hrt
    go_wp2_with fail
    go_ret
    exact ⟨rfl, HO.out⟩
 ·have hrf : r = false := HNo.out fun h => cn (by rw [← HN1.out, ← HN2.out, h])
  subst hrf
  have hne : ((n1 : Int) == (n2 : Int)) = false := by rw [beq_eq_false_iff_ne]; omega
  go_enter Tryd.func57, Tryd.ntmps57
  go_wp2_with fail
  go_ret
  exact ⟨rfl, Only.refl _ _⟩
set_option maxRecDepth 100000 in
theorem GSame_x {v1 v2 : Value} {l1 l2 : List NodeD} (h1 : RowT 4 NodC B w v1 l1) (h2 : RowT 4 NodC B2 w v2 l2) (r : Bool) (hr : r = true ↔ l1 = l2) :
  Calls Tryd.prog 35 #[.agg #[v1], .agg #[v2]] w (fun e w' => e = .returned (.bool r) ∧ Only (fun _ => False) w w') := by
 have H1 := Lib.hid h1
 have H2 := Lib.hid h2
 obtain ⟨a1, c1, rfl, k1, k2⟩ := h1.shape
 obtain ⟨a2, c2, rfl, k3, k4⟩ := h2.shape
 obtain ⟨n1, hn1⟩ : ∃ n, l1.length = n := ⟨_, rfl⟩
 obtain ⟨n2, hn2⟩ : ∃ n, l2.length = n := ⟨_, rfl⟩
 rw [hn1] at k1 H1 ⊢
 rw [hn2] at k3 H2 ⊢
 have HR := Lib.hid hr
 clear h1 h2 hn1 hn2 hr
 go_enter Tryd.func35, Tryd.ntmps35
 go_wp2_with fail
 have O2 : Only (fun _ => False) w _ := ((Only.refl _ w).alloc (.cells #[.slice a1 n1 c1] 39)).alloc (.cells #[.slice a2 n2 c2] 39)
 refine (EqualF_x (H1.out.keep NodC.keep (Kp.of0 O2)) (H2.out.keep NodC.keep (Kp.of0 O2)) r HR.out).mono ?_
 rintro e w1 ⟨rfl, O1⟩
 have HO := Lib.hid (O2.same O1)
 go_wp2_with fail
 go_ret
 exact ⟨rfl, HO.out⟩
set_option maxRecDepth 100000 in
set_option maxHeartbeats 4000000 in
theorem RSameG_x {v1 v2 : Value} {l1 l2 : List NodeD} (h1 : RowT 4 NodC B w v1 l1) (h2 : RowT 4 NodC B2 w v2 l2) (r : Bool) (hr : r = true ↔ l1 = l2) :
  Calls Tryd.prog 36 #[.agg #[v1], .agg #[v2]] w (fun e w' => e = .returned (.bool r) ∧ Only (fun _ => False) w w') := by
 have H1 := Lib.hid h1
 have H2 := Lib.hid h2
 obtain ⟨a1, c1, rfl, k1, k2⟩ := h1.shape
 obtain ⟨a2, c2, rfl, k3, k4⟩ := h2.shape
 obtain ⟨n1, hn1⟩ : ∃ n, l1.length = n := ⟨_, rfl⟩
 obtain ⟨n2, hn2⟩ : ∃ n, l2.length = n := ⟨_, rfl⟩
 have HN1 := Lib.hid hn1
 have HN2 := Lib.hid hn2
 have HR := Lib.hid hr
 rw [hn1] at k1 H1 ⊢
 rw [hn2] at k3 H2 ⊢
 have hno : l1 ≠ l2 → r = false := fun h => by
  cases hh : r with
  | false => rfl
  | true => exact absurd (HR.out.1 hh) h
 have HNo := Lib.hid hno
 clear h1 h2 hn1 hn2 hr hno
 obtain ⟨wa, hwa⟩ : ∃ W, w.alloc (.cells #[.slice a1 n1 c1] 39) = W := ⟨_, rfl⟩
 have hba : wa.heap[w.heap.size]? = some (.cells #[.slice a1 n1 c1] 39 (0, 0)) := by rw [← hwa]; exact heap_alloc_new _ _
 have hsa : wa.heap.size = w.heap.size + 1 := by rw [← hwa]; exact Array.size_push _
 obtain ⟨w0, hw0⟩ : ∃ W, wa.alloc (.cells #[.slice a2 n2 c2] 39) = W := ⟨_, rfl⟩
 have hbb : w0.heap[w.heap.size + 1]? = some (.cells #[.slice a2 n2 c2] 39 (0, 0)) := by rw [← hw0, ← hsa]; exact heap_alloc_new _ _
 have oa : Only (fun _ => False) w wa := by rw [← hwa]; exact (Only.refl _ _).alloc _
 have ob : Only (fun _ => False) wa w0 := by rw [← hw0]; exact (Only.refl _ _).alloc _
 have hbc := only_block hba ob (fun f => f)
 have HBox : Hid (∀ W, Only (fun _ => False) w0 W → W.cell? ⟨w.heap.size, 0, none⟩ = some (.slice a1 n1 c1) ∧ W.cell? ⟨w.heap.size + 1, 0, none⟩ = some (.slice a2 n2 c2)) := fun W o => ⟨by rw [cell_block (only_block hbc o (fun f => f))]; rfl, by rw [cell_block (only_block hbb o (fun f => f))]; rfl⟩
 have HO0 := Lib.hid (oa.same ob)
 obtain ⟨bx0, bx1⟩ := HBox.out w0 (Only.refl _ _)
 clear hba hbb hbc oa ob
 by_cases cn : n1 = n2
 ·subst cn
  have hne : ((n1 : Int) == (n1 : Int)) = true := by simp
  go_enter Tryd.func36, Tryd.ntmps36
  go_wp2_with fail
  go_loopw [5, 6, 7, 18] (fun _ _ _ vi wr => Hid (Only (fun _ => False) w0 wr) ∧ ∃ i : Nat, vi = .int .i64 i ∧ i ≤ n1 ∧ Hid (l1.take i = l2.take i)) (fun _ _ _ v _ => n1 - (RowKit.intOf v).toNat)
  case atStart => exact ⟨Only.refl _ _, 0, rfl, Nat.zero_le _, rfl⟩
  case round =>
   obtain ⟨HO, i, rfl, hi, HT⟩ := hrel
   by_cases ci : i < n1
   ·have ewi : IntKind.i64.wrap ((i : Int) + 1) = (i : Int) + 1 := by rw [IntKind.wrap_i64]; omega
    obtain ⟨x, hx⟩ : ∃ x, l1[i]? = some x := ⟨_, List.getElem?_eq_getElem (by rw [HN1.out]; exact ci)⟩
    obtain ⟨y, hy⟩ : ∃ y, l2[i]? = some y := ⟨_, List.getElem?_eq_getElem (by rw [HN2.out]; exact ci)⟩
    have hox := HO0.out.same HO.out
    obtain ⟨b, off, le, ca, p1, d1, p2, d2, he1, -, -, -, -, -, -, -, hE1⟩ := NodC_at (H1.out.keep NodC.keep (Kp.of0 hox)) hx
    obtain ⟨b', off', le', ca', p3, d3, p4, d4, he2, -, -, -, -, -, -, -, hE2⟩ := NodC_at (H2.out.keep NodC.keep (Kp.of0 hox)) hy
    cases he1
    cases he2
    obtain ⟨q1, hq1⟩ := boolOf (x.sets = y.sets)
    obtain ⟨q2, hq2⟩ := boolOf (x.needs = y.needs)
    obtain ⟨N5, hN5⟩ : ∃ k, wr.heap.size = k := ⟨_, rfl⟩
    obtain ⟨s1, hs1⟩ : ∃ k, x.sets.length = k := ⟨_, rfl⟩
    obtain ⟨s2, hs2⟩ : ∃ k, x.needs.length = k := ⟨_, rfl⟩
    obtain ⟨s3, hs3⟩ : ∃ k, y.sets.length = k := ⟨_, rfl⟩
    obtain ⟨s4, hs4⟩ : ∃ k, y.needs.length = k := ⟨_, rfl⟩
    rw [hs1, hs2] at hE1
    rw [hs3, hs4] at hE2
    have A1 := hE1 wr (Only.refl _ _)
    have q0 := A1.1 0 _ rfl
    have q1' := A1.1 1 _ rfl
    have q2' := A1.1 2 _ rfl
    have q3 := A1.1 3 _ rfl
    obtain ⟨wn, hwn⟩ : ∃ W, wr.alloc (.cells #[.string x.name, .string x.version, .slice p1 s1 d1, .slice p2 s2 d2] 80) = W := ⟨_, rfl⟩
    have hbn : wn.heap[N5]? = some (.cells #[.string x.name, .string x.version, .slice p1 s1 d1, .slice p2 s2 d2] 80 (0, 0)) := by rw [← hwn, ← hN5]; exact heap_alloc_new _ _
    have hsn : wn.heap.size = N5 + 1 := by rw [← hwn, ← hN5]; exact Array.size_push _
    have on : Only (fun _ => False) wr wn := by rw [← hwn]; exact (Only.refl _ _).alloc _
    have A2 := hE2 wn on
    have r0 := A2.1 0 _ rfl
    have r1 := A2.1 1 _ rfl
    have r2 := A2.1 2 _ rfl
    have r3 := A2.1 3 _ rfl
    rw [Nat.add_zero] at q0 r0
    obtain ⟨wm, hwm⟩ : ∃ W, wn.alloc (.cells #[.string y.name, .string y.version, .slice p3 s3 d3, .slice p4 s4 d4] 80) = W := ⟨_, rfl⟩
    have om : Only (fun _ => False) wn wm := by rw [← hwm]; exact (Only.refl _ _).alloc _
    have hbm : wm.heap[N5 + 1]? = some (.cells #[.string y.name, .string y.version, .slice p3 s3 d3, .slice p4 s4 d4] 80 (0, 0)) := by rw [← hwm, ← hsn]; exact heap_alloc_new _ _
    have hbn2 := only_block hbn om (fun f => f)
    have HCm : Hid (∀ W, Only (fun _ => False) wm W → W.cell? ⟨N5, 0, none⟩ = some (.string x.name) ∧ W.cell? ⟨N5, 1, none⟩ = some (.string x.version) ∧ W.cell? ⟨N5, 2, none⟩ = some (.slice p1 s1 d1) ∧ W.cell? ⟨N5, 3, none⟩ = some (.slice p2 s2 d2) ∧ W.cell? ⟨N5 + 1, 0, none⟩ = some (.string y.name) ∧ W.cell? ⟨N5 + 1, 1, none⟩ = some (.string y.version) ∧ W.cell? ⟨N5 + 1, 2, none⟩ = some (.slice p3 s3 d3) ∧ W.cell? ⟨N5 + 1, 3, none⟩ = some (.slice p4 s4 d4)) := fun W o => by
     have e1 := only_block hbn2 o (fun f => f)
     have e2 := only_block hbm o (fun f => f)
     exact ⟨by rw [cell_block e1]; rfl, by rw [cell_block e1]; rfl, by rw [cell_block e1]; rfl, by rw [cell_block e1]; rfl, by rw [cell_block e2]; rfl, by rw [cell_block e2]; rfl, by rw [cell_block e2]; rfl, by rw [cell_block e2]; rfl⟩
    have HOm := Lib.hid (HO.out.same (on.same om))
    have HE1 : Hid (∀ W, Only (fun _ => False) wm W → RowT 2 SetC B W (.slice p1 s1 d1) x.sets ∧ RowT 1 StrC B W (.slice p2 s2 d2) x.needs) := fun W o => (hE1 W ((on.same om).same o)).2
    have HE2 : Hid (∀ W, Only (fun _ => False) wm W → RowT 2 SetC B2 W (.slice p3 s3 d3) y.sets ∧ RowT 1 StrC B2 W (.slice p4 s4 d4) y.needs) := fun W o => (hE2 W ((on.same om).same o)).2
    have HQ1 := Lib.hid hq1
    have HQ2 := Lib.hid hq2
    have HX := Lib.hid hx
    have HY := Lib.hid hy
    have HNe : Hid (x ≠ y → r = false) := fun e => HNo.out fun h => e (by have h2 := HX.out; rw [h, HY.out] at h2; exact (Option.some.inj h2).symm)
    obtain ⟨bx2, bx3⟩ := HBox.out wr HO.out
    obtain ⟨-, bx4⟩ := HBox.out wn (HO.out.same on)
    obtain ⟨n0, n1', n2', n3', m0, m1, m2, m3⟩ := HCm.out wm (Only.refl _ _)
    clear hx hy hE1 hE2 A1 A2 hq1 hq2 on om hbn hbn2 hbm hs1 hs2 hs3 hs4 hox
    by_cases e1 : x.name = y.name
    ·have h1 := strEq e1
     by_cases e2 : x.version = y.version
     ·have h2 := strEq e2
      have E1 := Lib.hid e1
      have E2 := Lib.hid e2
      clear e1 e2
      go_wp2_with fail
      refine (RSameT_x (HE1.out _ (Only.refl _ _)).1 (HE2.out _ (Only.refl _ _)).1 q1 HQ1.out).mono ?_
      rintro e w5 ⟨rfl, O5⟩
      have HO5 := Lib.hid O5
      obtain ⟨-, -, -, l3, -, -, -, o3⟩ := HCm.out w5 O5
      clear O5
      cases q1 with
      | false =>
       have hrf : r = false := HNe.out fun h => by have := HQ1.out.2 (by rw [h]); cases this
       subst hrf
       go_wp2_with fail
       go_ret
       exact ⟨rfl, HO0.out.same (HOm.out.same HO5.out)⟩
      | true =>
       go_wp2_with fail
       refine (RSameS_x (HE1.out _ HO5.out).2 (HE2.out _ HO5.out).2 q2 HQ2.out).mono ?_
       rintro e w6 ⟨rfl, O6⟩
       have HO6 := Lib.hid (HOm.out.same (HO5.out.same O6))
       clear O6
       cases q2 with
       | false =>
        have hrf : r = false := HNe.out fun h => by have := HQ2.out.2 (by rw [h]); cases this
        subst hrf
        go_wp2_with fail
        go_ret
        exact ⟨rfl, HO0.out.same HO6.out⟩
       | true =>
        have HT2 := Lib.hid (take_alike HX.out HY.out HT.out (NodeD.ext4 E1.out E2.out (HQ1.out.1 (by trivial)) (HQ2.out.1 (by trivial))))
        go_wp2_with fail
        go_roundw
        case rel => exact ⟨HO6, i + 1, by first | rfl | go_num, by omega, HT2⟩
        case measure => simp [RowKit.intOf] <;> omega
     ·have h2 := strNe e2
      have hrf : r = false := HNe.out fun h => e2 (by rw [h])
      subst hrf
      clear e1 e2
      go_wp2_with fail
      go_ret
      exact ⟨rfl, HO0.out.same HOm.out⟩
    ·have h1 := strNe e1
     have hrf : r = false := HNe.out fun h => e1 (by rw [h])
     subst hrf
     clear e1
     go_wp2_with fail
     go_ret
     exact ⟨rfl, HO0.out.same HOm.out⟩
   ·obtain rfl : i = n1 := by omega
    have hrt : r = true := HR.out.2 (by have h := HT.out; rw [List.take_of_length_le (Nat.le_of_eq HN1.out), List.take_of_length_le (Nat.le_of_eq HN2.out)] at h; exact h)
    subst hrt
    go_wp2_with fail
    go_ret
    exact ⟨rfl, HO0.out.same HO.out⟩
 ·have hrf : r = false := HNo.out fun h => cn (by rw [← HN1.out, ← HN2.out, h])
  subst hrf
  have hne : ((n1 : Int) == (n2 : Int)) = false := by rw [beq_eq_false_iff_ne]; omega
  go_enter Tryd.func36, Tryd.ntmps36
  go_wp2_with fail
  go_ret
  exact ⟨rfl, HO0.out⟩
set_option maxRecDepth 100000 in
theorem RSame28_x {v1 v2 : Value} {l1 l2 : List NodeD} (h1 : RowT 4 NodC B w v1 l1) (h2 : RowT 4 NodC B2 w v2 l2) (r : Bool) (hr : r = true ↔ l1 = l2) :
  Calls Tryd.prog 19 #[.agg #[v1], .agg #[v2]] w (fun e w' => e = .returned (.bool r) ∧ Only (fun _ => False) w w') := by
 have H1 := Lib.hid h1
 have H2 := Lib.hid h2
 obtain ⟨a1, c1, rfl, k1, k2⟩ := h1.shape
 obtain ⟨a2, c2, rfl, k3, k4⟩ := h2.shape
 obtain ⟨n1, hn1⟩ : ∃ n, l1.length = n := ⟨_, rfl⟩
 obtain ⟨n2, hn2⟩ : ∃ n, l2.length = n := ⟨_, rfl⟩
 rw [hn1] at k1 H1 ⊢
 rw [hn2] at k3 H2 ⊢
 have HR := Lib.hid hr
 clear h1 h2 hn1 hn2 hr
 go_enter Tryd.func19, Tryd.ntmps19
 go_wp2_with fail
 have O2 : Only (fun _ => False) w _ := ((Only.refl _ w).alloc (.cells #[.slice a1 n1 c1] 39)).alloc (.cells #[.slice a2 n2 c2] 39)
 refine (RSameG_x (H1.out.keep NodC.keep (Kp.of0 O2)) (H2.out.keep NodC.keep (Kp.of0 O2)) r HR.out).mono ?_
 rintro e w1 ⟨rfl, O1⟩
 have HO := Lib.hid (O2.same O1)
 go_wp2_with fail
 go_ret
 exact ⟨rfl, HO.out⟩
end
end Go.Proofs.YtmlfchjompfmaaaDoor

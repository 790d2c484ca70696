/- The document's versions, exact: at, May, before. -/
import Derived.Test.YtmlfchjompfmaaaDoorVe2
set_option linter.unusedVariables false
namespace Go.Proofs.YtmlfchjompfmaaaDoor
open Go.RowKit
open Vn (dgs lts partB beB)
theorem bytesLess_x : ∀ (x y : List UInt8), Op.bytesLess x y = decide (x < y)
 | [], [] => by simp [Op.bytesLess]
 | [], _ :: _ => by simp [Op.bytesLess]
 | _ :: _, [] => by simp [Op.bytesLess]
 | a :: x, b :: y => by
  rw [Op.bytesLess, bytesLess_x x y]
  simp only [List.cons_lt_cons_iff]
  by_cases h1 : a < b <;> by_cases h2 : a = b <;> by_cases h3 : x < y <;> simp [h1, h2, h3]
def mayB (l : List UInt8) : Bool := decide (0 < l.length) && decide (l.length ≤ 40) && (cutB 46 l).all partB && decide ((cutB 46 l).length ≤ 8)
section
variable {w w' : World} {B : Nat}
set_option maxRecDepth 100000 in
set_option maxHeartbeats 2000000 in
theorem May_x (s : Str) (hs : okS s) (r : Bool) (hr : mayB s.toList = r) : Calls Tryd.prog 10 #[.string s] w (fun e w' => e = .returned (.bool r) ∧ Only (fun _ => False) w w') := by
 unfold mayB at hr
 rw [size_toList] at hr
 by_cases h0 : s.size = 0
 ·rw [decide_eq_false (by omega), Bool.false_and, Bool.false_and, Bool.false_and] at hr
  subst hr
  obtain rfl := size_zero h0
  clear hs
  go_enter Tryd.func10, Tryd.ntmps10
  go_wp2_with fail
  go_ret
  exact ⟨rfl, Only.refl _ _⟩
 ·rw [decide_eq_true (by omega : 0 < s.size), Bool.true_and] at hr
  have hemp : s.toList.isEmpty = false := by rw [isE, decide_eq_false h0]
  by_cases h40 : 40 < s.size
  ·rw [decide_eq_false (by omega), Bool.false_and, Bool.false_and] at hr
   subst hr
   have h41 : (40 : Int) < (s.size : Int) := by omega
   clear hs
   go_enter Tryd.func10, Tryd.ntmps10
   go_wp2_with fail
   go_ret
   exact ⟨rfl, Only.refl _ _⟩
  ·have h41 : s.size ≤ 40 := by omega
   rw [decide_eq_true h41, Bool.true_and] at hr
   have HRes := Lib.hid hr
   have HC := Lib.hid (Cut_x (w := w) s (by omega) 46 46 rfl)
   clear hs hr
   go_enter Tryd.func10, Tryd.ntmps10
   go_wp2_with fail
   refine HC.out.mono ?_
   rintro e w1 ⟨v, rfl, hT, O1⟩
   obtain ⟨l, hL, hR⟩ := hT.row
   have HL := Lib.hid hL
   have HO1 := Lib.hid O1
   obtain ⟨ao, cap, rfl, hc1, hc2⟩ := hR.shape
   obtain ⟨n, hn⟩ : ∃ n, l.length = n := ⟨_, rfl⟩
   rw [hn] at hR hc1 ⊢
   have HN := Lib.hid hn
   have HR : Hid (∀ W, Only (fun _ => False) w1 W → RowT 1 StrC w1.heap.size W (.slice ao n cap) l) := fun W ho => hR.keep StrC.keep (Kp.of0 ho)
   have HOC : Hid (Only (fun _ => False) w1 w1) := Only.refl _ _
   have HR2 : Hid ((l.all (fun t => partB t.toList) && decide (n ≤ 8)) = r) := by
    rw [← HRes.out, ← hL, List.length_map, hn, List.all_map]
    rfl
   clear O1 HC hn hT hR hL HRes
   go_wp2_with fail
   go_loopw [16] (fun vi wri => Hid (Only (fun _ => False) w1 wri) ∧ ∃ i : Nat, vi = .int .i64 i ∧ i ≤ n ∧ Hid ((l.take i).all (fun t => partB t.toList) = true)) (fun v _ => n - (RowKit.intOf v).toNat)
   case atStart => exact ⟨HOC, 0, rfl, Nat.zero_le _, show Hid _ from rfl⟩
   case round =>
    obtain ⟨wri, rfl⟩ : ∃ W, W = wr := ⟨_, rfl⟩
    clear HOC
    obtain ⟨HOi, i, rfl, hi, HA⟩ := hrel
    by_cases ci : i < n
    ·have ewi : IntKind.i64.wrap ((i : Int) + 1) = (i : Int) + 1 := by rw [IntKind.wrap_i64]; omega
     obtain ⟨y, hx⟩ : ∃ y, l[i]? = some y := ⟨_, List.getElem?_eq_getElem (by rw [HN.out]; exact ci)⟩
     obtain ⟨b, off, he, hok, hE⟩ := StrC_at (HR.out wri HOi.out) hx
     subst he
     have hr := (hE wri (Only.refl _ _)).1
     have g0 := hr 0 _ rfl
     rw [Nat.add_zero, Nat.mul_one] at g0
     obtain ⟨b2, hb2⟩ : ∃ b, partB y.toList = b := ⟨_, rfl⟩
     have HP := Lib.hid (part_x (w := wri) y hok b2 hb2)
     have HX := Lib.hid hx
     have HB2 := Lib.hid hb2
     clear hr hE hx hok hb2
     go_wp2_with fail
     refine HP.out.mono ?_
     rintro e w2 ⟨rfl, O2⟩
     have HO2 := Lib.hid (HOi.out.same O2)
     clear O2 HP g0
     cases b2 with
     | false =>
      have hrf : r = false := by
       rw [← HR2.out]
       have : l.all (fun t => partB t.toList) = false := by
        cases hh : l.all (fun t => partB t.toList)
        ·rfl
        ·rw [List.all_eq_true] at hh
         have := hh y (List.mem_of_getElem? HX.out)
         rw [HB2.out] at this
         cases this
       rw [this]
       rfl
      subst hrf
      clear HR2
      go_wp2_with fail
      go_ret
      exact ⟨rfl, HO1.out.same HO2.out⟩
     | true =>
      have HA2 : Hid ((l.take (i + 1)).all (fun t => partB t.toList) = true) := by
       rw [Hid, List.take_add_one, HX.out]
       simp only [Option.toList_some, List.all_append, HA.out, List.all_cons, HB2.out, List.all_nil]
       rfl
      go_wp2_with fail
      go_roundw
      case rel => exact ⟨HO2, i + 1, by first | rfl | go_num, by omega, HA2⟩
      case measure => simp [RowKit.intOf] <;> omega
    ·obtain rfl : n = i := by omega
     have hr2 := HR2.out
     have ha := HA.out
     rw [List.take_of_length_le (Nat.le_of_eq HN.out)] at ha
     rw [ha, Bool.true_and] at hr2
     clear HR2 ha HA
     by_cases h8 : n ≤ 8
     ·rw [decide_eq_true h8] at hr2
      subst hr2
      have h8' : (n : Int) ≤ 8 := by omega
      go_wp2_with fail
      go_ret
      exact ⟨rfl, HO1.out.same HOi.out⟩
     ·rw [decide_eq_false h8] at hr2
      subst hr2
      have h8' : ¬ ((n : Int) ≤ 8) := by omega
      go_wp2_with fail
      go_ret
      exact ⟨rfl, HO1.out.same HOi.out⟩
set_option maxRecDepth 100000 in
theorem at_x {v : Value} {l : List Str} (h : RowT 1 StrC B w v l) (i : Nat) (hi : i ≤ 1000000000) (t : Str) (ht : l.getD i .empty = t) : Calls Tryd.prog 28 #[v, .int .i64 (i : Int)] w (fun e w' => e = .returned (.string t) ∧ Only (fun _ => False) w w') := by
 obtain ⟨ao, cap, rfl, g1, g2⟩ := h.shape
 obtain ⟨n, hn⟩ : ∃ n, l.length = n := ⟨_, rfl⟩
 by_cases ci : i < l.length
 ·obtain ⟨y, hx⟩ : ∃ y, l[i]? = some y := ⟨_, List.getElem?_eq_getElem ci⟩
  rw [List.getD_eq_getElem?_getD, hx] at ht
  have ht' : y = t := ht
  subst ht'
  obtain ⟨b, off, he, hok, hE⟩ := StrC_at h hx
  subst he
  have hr := (hE w (Only.refl _ _)).1
  have g0 := hr 0 _ rfl
  rw [Nat.add_zero, Nat.mul_one] at g0
  rw [hn] at ci g1 ⊢
  clear hr hE hx h hn ht hok
  go_enter Tryd.func28, Tryd.ntmps28
  go_wp2_with fail
  go_ret
  exact ⟨rfl, Only.refl _ _⟩
 ·rw [List.getD_eq_getElem?_getD, List.getElem?_eq_none (by omega)] at ht
  have ht' : ByteArray.empty = t := ht
  subst ht'
  rw [hn] at ci g1 ⊢
  clear h hn ht
  go_enter Tryd.func28, Tryd.ntmps28
  go_wp2_with fail
  go_ret
  exact ⟨rfl, Only.refl _ _⟩
theorem toList_inj {a b : Str} (h : a.toList = b.toList) : a = b := by
 rw [ByteArray.toList_eq, ByteArray.toList_eq] at h
 cases a with | mk x => cases b with | mk y =>
  congr 1
  exact Array.toList_inj.1 h
set_option maxRecDepth 100000 in
set_option maxHeartbeats 2000000 in
theorem before_x (a b : Str) (ha : okS a) (hb : okS b) (r : Bool) (hr : beB a.toList b.toList = r) : Calls Tryd.prog 27 #[.string a, .string b] w (fun e w' => e = .returned (.bool r) ∧ Only (fun _ => False) w w') := by
 have hbd := bytes_dec a b
 obtain ⟨ee, hee⟩ : ∃ e, decide (a = b) = e := ⟨_, rfl⟩
 rw [hee] at hbd
 obtain ⟨ea, hea⟩ : ∃ e, a.toList.isEmpty = e := ⟨_, rfl⟩
 obtain ⟨eb, heb⟩ : ∃ e, b.toList.isEmpty = e := ⟨_, rfl⟩
 obtain ⟨la, hla⟩ : ∃ x, lts a.toList = x := ⟨_, rfl⟩
 obtain ⟨lb, hlb⟩ : ∃ x, lts b.toList = x := ⟨_, rfl⟩
 obtain ⟨da, hda⟩ : ∃ x, dgs a.toList = x := ⟨_, rfl⟩
 obtain ⟨db, hdb⟩ : ∃ x, dgs b.toList = x := ⟨_, rfl⟩
 have HLa : Hid (∀ W, Calls Tryd.prog 41 #[.string a] W (fun e w' => e = .returned (.bool la) ∧ Only (fun _ => False) W w')) := fun W => Letters_x a ha la hla
 have HLb : Hid (∀ W, Calls Tryd.prog 41 #[.string b] W (fun e w' => e = .returned (.bool lb) ∧ Only (fun _ => False) W w')) := fun W => Letters_x b hb lb hlb
 have HDa : Hid (∀ W, Calls Tryd.prog 42 #[.string a] W (fun e w' => e = .returned (.bool da) ∧ Only (fun _ => False) W w')) := fun W => Digits_x a ha da hda
 have HDb : Hid (∀ W, Calls Tryd.prog 42 #[.string b] W (fun e w' => e = .returned (.bool db) ∧ Only (fun _ => False) W w')) := fun W => Digits_x b hb db hdb
 have hr2 : (if ee = true then false else if ea = true then db else if eb = true then la else if (la != lb) = true then la else if (da && (a.size != b.size)) = true then decide (a.size < b.size) else Op.bytesLess a.toList b.toList) = r := by
  rw [← hr]
  unfold beB
  have e1 : (ee = true) = (a.toList = b.toList) := by
   rw [← hee, decide_eq_true_eq, eq_iff_iff]
   exact ⟨fun h => by rw [h], toList_inj⟩
  have e2 : (ea = true) = (a.toList = []) := by rw [← hea, List.isEmpty_iff]
  have e3 : (eb = true) = (b.toList = []) := by rw [← heb, List.isEmpty_iff]
  simp only [e1, e2, e3, hla, hlb, hda, hdb, size_toList, bytesLess_x]
 clear ha hb hr hee hla hlb hda hdb
 have HRes := Lib.hid hr2
 clear hr2
 go_enter Tryd.func27, Tryd.ntmps27
 cases ee with
 | true =>
  have hres := HRes.out
  simp only [if_true] at hres
  subst hres
  clear HRes
  go_wp2_with fail
  go_ret
  exact ⟨rfl, Only.refl _ _⟩
 | false =>
  cases ea with
  | true =>
   have hres := HRes.out
   simp only [Bool.false_eq_true, if_true, if_false] at hres
   subst hres
   clear HRes
   go_wp2_with fail
   refine (HDb.out _).mono ?_
   rintro e w1 ⟨rfl, O1⟩
   have HO1 := Lib.hid O1
   clear O1
   go_wp2_with fail
   go_ret
   exact ⟨rfl, HO1.out⟩
  | false =>
   cases eb with
   | true =>
    have hres := HRes.out
    simp only [Bool.false_eq_true, if_true, if_false] at hres
    subst hres
    clear HRes
    go_wp2_with fail
    refine (HLa.out _).mono ?_
    rintro e w1 ⟨rfl, O1⟩
    have HO1 := Lib.hid O1
    clear O1
    go_wp2_with fail
    go_ret
    exact ⟨rfl, HO1.out⟩
   | false =>
    go_wp2_with fail
    refine (HLa.out _).mono ?_
    rintro e w1 ⟨rfl, O1⟩
    have HO1 := Lib.hid O1
    clear O1
    go_wp2_with fail
    refine (HLb.out _).mono ?_
    rintro e w2 ⟨rfl, O2⟩
    have HO2 := Lib.hid (HO1.out.same O2)
    clear O2 HO1
    cases la <;> cases lb
    case false.true | true.false =>
     have hres := HRes.out
     first
      | (have hres2 : true = r := hres; subst hres2)
      | (have hres2 : false = r := hres; subst hres2)
     clear hres
     clear HRes
     go_wp2_with fail
     refine (HLa.out _).mono ?_
     rintro e w3 ⟨rfl, O3⟩
     have HO3 := Lib.hid (HO2.out.same O3)
     clear O3 HO2
     go_wp2_with fail
     go_ret
     exact ⟨rfl, HO3.out⟩
    case false.false | true.true =>
     have HRes3 : Hid ((if (da && (a.size != b.size)) = true then decide (a.size < b.size) else Op.bytesLess a.toList b.toList) = r) := by
      exact HRes.out
     clear HRes
     go_wp2_with fail
     refine (HDa.out _).mono ?_
     rintro e w3 ⟨rfl, O3⟩
     have HO3 := Lib.hid (HO2.out.same O3)
     clear O3 HO2
     cases da with
     | false =>
      have hres := HRes3.out
      rw [Bool.false_and, if_neg (by decide)] at hres
      subst hres
      clear HRes3
      go_wp2_with fail
      go_ret
      exact ⟨rfl, HO3.out⟩
     | true =>
      have hres := HRes3.out
      rw [Bool.true_and] at hres
      clear HRes3
      by_cases hl : a.size = b.size
      ·have hl2 : ((a.size : Int) == (b.size : Int)) = true := by rw [hl]; simp
       have hl3 : (a.size != b.size) = false := by rw [hl]; simp
       rw [hl3, if_neg (by decide)] at hres
       subst hres
       clear hl3
       go_wp2_with fail
       all_goals (go_ret; exact ⟨rfl, HO3.out⟩)
      ·have hl2 : ((a.size : Int) == (b.size : Int)) = false := by rw [beq_eq_false_iff_ne]; omega
       have hl3 : (a.size != b.size) = true := by rw [bne_iff_ne]; exact hl
       rw [hl3, if_pos rfl] at hres
       subst hres
       clear hl3
       go_wp2_with fail
       all_goals (go_ret; exact ⟨rfl, HO3.out⟩)
end
end Go.Proofs.YtmlfchjompfmaaaDoor

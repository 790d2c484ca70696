/- Ve1 Ve2 Ve3 Ve4, in one text. -/
import Derived.Test.YtmlfchjompfmaaaGreatDoorStrA
import Derived.Test.YtmlfchjompfmaaaGreatDoorVnA
set_option linter.unusedVariables false
namespace Go.Proofs.YtmlfchjompfmaaaGreatDoor
open Go.RowKit
open Vn (dgs lts isDg isLt partB numB)
section
variable {w w' : World} {B : Nat}
theorem size_toList (s : Str) : s.toList.length = s.size := by rw [ByteArray.toList_eq, Array.length_toList]; rfl
theorem toList_at {s : Str} {i : Nat} (h : i < s.size) : s.toList[i]? = some s[i] := by
 rw [ByteArray.toList_eq]
 have h2 : i < s.data.toList.length := by rw [Array.length_toList]; exact h
 rw [List.getElem?_eq_getElem h2]
 rfl
theorem toList_get {s : Str} {i : Nat} (h : i < s.toList.length) (h' : i < s.size) : s.toList[i] = s[i] := by
 have := toList_at h'
 rw [List.getElem?_eq_getElem h] at this
 exact Option.some.inj this
theorem take_all_succ {s : Str} {p : UInt8 → Bool} {i : Nat} (h : i < s.size) : (s.toList.take (i + 1)).all p = ((s.toList.take i).all p && p s[i]) := by
 rw [List.take_add_one, toList_at h]
 simp [List.all_append]
theorem all_false {s : Str} {p : UInt8 → Bool} {i : Nat} (h : i < s.size) (hp : p s[i] = false) : s.toList.all p = false := by
 cases hh : s.toList.all p
 ·rfl
 ·rw [List.all_eq_true] at hh
  have := hh s[i] (List.mem_of_getElem? (toList_at h))
  rw [this] at hp
  cases hp
theorem take_size (s : Str) : s.toList.take s.size = s.toList := List.take_of_length_le (by rw [size_toList]; exact Nat.le_refl _)
theorem isE {s : Str} : s.toList.isEmpty = decide (s.size = 0) := by
 rw [← size_toList]
 cases s.toList <;> simp
set_option maxRecDepth 100000 in
theorem Digits_x (s : Str) (hs : okS s) (r : Bool) (hr : dgs s.toList = r) : Calls Tryz.prog 52 #[.string s] w (fun e w' => e = .returned (.bool r) ∧ Only (fun _ => False) w w') := by
 have hs2 : s.size ≤ 9223372036854775807 := by unfold okS maxLen at hs; omega
 unfold dgs at hr
 rw [isE] at hr
 have HRes := Lib.hid hr
 clear hs hr
 by_cases h0 : s.size = 0
 ·have hrf : r = false := by
   rw [← HRes.out, decide_eq_true h0, Bool.not_true, Bool.and_false]
  subst hrf
  clear HRes
  obtain rfl := size_zero h0
  clear hs2 h0
  go_enter Tryz.func52, Tryz.ntmps52
  go_wp2_with fail
  go_loopw [3] (fun vi wr => IdxRel w 0 vi wr) (fun v _ => 0 - (RowKit.intOf v).toNat)
  case atStart => exact ⟨show Hid _ from Only.refl _ _, 0, rfl, Nat.zero_le _⟩
  case round =>
   obtain ⟨HO, i, rfl, hi⟩ := hrel
   obtain rfl : i = 0 := by omega
   go_wp2_with fail
   go_ret
   exact ⟨rfl, HO.out⟩
 ·have hemp : s.toList.isEmpty = false := by rw [isE, decide_eq_false h0]
  have HR2 : Hid (s.toList.all isDg = r) := by
   rw [← HRes.out, decide_eq_false h0, Bool.not_false, Bool.and_true]
   exact rfl
  clear h0 HRes
  go_enter Tryz.func52, Tryz.ntmps52
  go_wp2_with fail
  go_loopw [3] (fun vi wr => Hid (Only (fun _ => False) w wr) ∧ ∃ i : Nat, vi = .int .i64 i ∧ i ≤ s.size ∧ Hid ((s.toList.take i).all isDg = true)) (fun v _ => s.size - (RowKit.intOf v).toNat)
  case atStart => exact ⟨show Hid _ from Only.refl _ _, 0, rfl, Nat.zero_le _, show Hid _ from by simp [Hid]⟩
  case round =>
   obtain ⟨HO, i, rfl, hi, HA⟩ := hrel
   by_cases ci : i < s.size
   ·have ewi : IntKind.i64.wrap ((i : Int) + 1) = (i : Int) + 1 := by rw [IntKind.wrap_i64]; omega
    obtain ⟨b, hb⟩ : ∃ b : UInt8, s[i] = b := ⟨_, rfl⟩
    by_cases c1 : b.toNat < 48
    ·have hrf : r = false := by
      rw [← HR2.out]
      exact all_false ci (by rw [hb]; unfold isDg; rw [decide_eq_false]; omega)
     subst hrf
     go_wp2_with fail
     all_goals (go_ret; exact ⟨rfl, HO.out⟩)
    ·by_cases c2 : 57 < b.toNat
     ·have hrf : r = false := by
       rw [← HR2.out]
       exact all_false ci (by rw [hb]; unfold isDg; rw [decide_eq_false]; omega)
      subst hrf
      go_wp2_with fail
      all_goals (go_ret; exact ⟨rfl, HO.out⟩)
     ·have HA2 : Hid ((s.toList.take (i + 1)).all isDg = true) := by
       rw [Hid, take_all_succ ci, HA.out, hb, Bool.true_and]
       unfold isDg
       rw [decide_eq_true_eq]
       omega
      go_wp2_with fail
      all_goals exact ⟨⟨HO, i + 1, by first | rfl | go_num, by omega, HA2⟩, by simp [RowKit.intOf] <;> omega⟩
   ·obtain rfl : i = s.size := by omega
    have hrt : r = true := by
     rw [← HR2.out, ← HA.out, take_size]
    subst hrt
    go_wp2_with fail
    go_ret
    exact ⟨rfl, HO.out⟩
set_option maxRecDepth 100000 in
theorem Letters_x (s : Str) (hs : okS s) (r : Bool) (hr : lts s.toList = r) : Calls Tryz.prog 53 #[.string s] w (fun e w' => e = .returned (.bool r) ∧ Only (fun _ => False) w w') := by
 have hs2 : s.size ≤ 9223372036854775807 := by unfold okS maxLen at hs; omega
 unfold lts at hr
 rw [isE] at hr
 have HRes := Lib.hid hr
 clear hs hr
 by_cases h0 : s.size = 0
 ·have hrf : r = false := by
   rw [← HRes.out, decide_eq_true h0, Bool.not_true, Bool.and_false]
  subst hrf
  clear HRes
  obtain rfl := size_zero h0
  clear hs2 h0
  go_enter Tryz.func53, Tryz.ntmps53
  go_wp2_with fail
  go_loopw [3] (fun vi wr => IdxRel w 0 vi wr) (fun v _ => 0 - (RowKit.intOf v).toNat)
  case atStart => exact ⟨show Hid _ from Only.refl _ _, 0, rfl, Nat.zero_le _⟩
  case round =>
   obtain ⟨HO, i, rfl, hi⟩ := hrel
   obtain rfl : i = 0 := by omega
   go_wp2_with fail
   go_ret
   exact ⟨rfl, HO.out⟩
 ·have hemp : s.toList.isEmpty = false := by rw [isE, decide_eq_false h0]
  have HR2 : Hid (s.toList.all isLt = r) := by
   rw [← HRes.out, decide_eq_false h0, Bool.not_false, Bool.and_true]
   exact rfl
  clear h0 HRes
  go_enter Tryz.func53, Tryz.ntmps53
  go_wp2_with fail
  go_loopw [3] (fun vi wr => Hid (Only (fun _ => False) w wr) ∧ ∃ i : Nat, vi = .int .i64 i ∧ i ≤ s.size ∧ Hid ((s.toList.take i).all isLt = true)) (fun v _ => s.size - (RowKit.intOf v).toNat)
  case atStart => exact ⟨show Hid _ from Only.refl _ _, 0, rfl, Nat.zero_le _, show Hid _ from by simp [Hid]⟩
  case round =>
   obtain ⟨HO, i, rfl, hi, HA⟩ := hrel
   by_cases ci : i < s.size
   ·have ewi : IntKind.i64.wrap ((i : Int) + 1) = (i : Int) + 1 := by rw [IntKind.wrap_i64]; omega
    obtain ⟨b, hb⟩ : ∃ b : UInt8, s[i] = b := ⟨_, rfl⟩
    by_cases c1 : b.toNat < 97
    ·have hrf : r = false := by
      rw [← HR2.out]
      exact all_false ci (by rw [hb]; unfold isLt; rw [decide_eq_false]; omega)
     subst hrf
     go_wp2_with fail
     all_goals (go_ret; exact ⟨rfl, HO.out⟩)
    ·by_cases c2 : 122 < b.toNat
     ·have hrf : r = false := by
       rw [← HR2.out]
       exact all_false ci (by rw [hb]; unfold isLt; rw [decide_eq_false]; omega)
      subst hrf
      go_wp2_with fail
      all_goals (go_ret; exact ⟨rfl, HO.out⟩)
     ·have HA2 : Hid ((s.toList.take (i + 1)).all isLt = true) := by
       rw [Hid, take_all_succ ci, HA.out, hb, Bool.true_and]
       unfold isLt
       rw [decide_eq_true_eq]
       omega
      go_wp2_with fail
      all_goals exact ⟨⟨HO, i + 1, by first | rfl | go_num, by omega, HA2⟩, by simp [RowKit.intOf] <;> omega⟩
   ·obtain rfl : i = s.size := by omega
    have hrt : r = true := by
     rw [← HR2.out, ← HA.out, take_size]
    subst hrt
    go_wp2_with fail
    go_ret
    exact ⟨rfl, HO.out⟩
theorem head_at {s : Str} (h : 0 < s.size) : s.toList.head? = some s[0] := by
 rw [List.head?_eq_getElem?]
 exact toList_at h
set_option maxRecDepth 100000 in
theorem part_x (s : Str) (hs : okS s) (r : Bool) (hr : partB s.toList = r) : Calls Tryz.prog 51 #[.string s] w (fun e w' => e = .returned (.bool r) ∧ Only (fun _ => False) w w') := by
 obtain ⟨bl, hbl⟩ : ∃ b, lts s.toList = b := ⟨_, rfl⟩
 obtain ⟨bd, hbd⟩ : ∃ b, dgs s.toList = b := ⟨_, rfl⟩
 have HL := Lib.hid (Letters_x (w := w) s hs bl hbl)
 have HD : Hid (∀ W, Calls Tryz.prog 52 #[.string s] W (fun e w' => e = .returned (.bool bd) ∧ Only (fun _ => False) W w')) := fun W => Digits_x s hs bd hbd
 unfold partB numB at hr
 rw [hbl, hbd, size_toList] at hr
 have hpos : bd = true → 0 < s.size := fun h => by
  rw [h] at hbd
  unfold dgs at hbd
  rw [isE] at hbd
  simp only [Bool.and_eq_true, Bool.not_eq_true', decide_eq_false_iff_not] at hbd
  omega
 clear hs hbl hbd
 go_enter Tryz.func51, Tryz.ntmps51
 go_wp2_with fail
 refine HL.out.mono ?_
 rintro e w1 ⟨rfl, O1⟩
 have HO1 := Lib.hid O1
 clear O1 HL
 cases bl with
 | true =>
  obtain rfl : true = r := by simpa using hr
  clear hr hpos
  go_wp2_with fail
  go_ret
  exact ⟨rfl, HO1.out⟩
 | false =>
  rw [Bool.false_or] at hr
  go_wp2_with fail
  refine (HD.out _).mono ?_
  rintro e w2 ⟨rfl, O2⟩
  have HO2 := Lib.hid (HO1.out.same O2)
  clear O2 HD
  cases bd with
  | false =>
   obtain rfl : false = r := by simpa using hr
   clear hr hpos
   go_wp2_with fail
   go_ret
   exact ⟨rfl, HO2.out⟩
  | true =>
   have hp := hpos rfl
   rw [Bool.true_and] at hr
   clear hpos
   by_cases h9 : s.size ≤ 9
   ·have h9' : (s.size : Int) ≤ 9 := by omega
    rw [decide_eq_true h9, Bool.true_and, head_at hp] at hr
    obtain ⟨b, hb⟩ : ∃ b : UInt8, s[0] = b := ⟨_, rfl⟩
    rw [hb] at hr
    obtain ⟨bz, hbz⟩ : ∃ z : Bool, (s.toList == [48]) = z := ⟨_, rfl⟩
    rw [hbz] at hr
    cases bz with
    | true =>
     obtain rfl : true = r := by simpa using hr
     clear hr
     go_wp2_with fail
     all_goals (go_ret; exact ⟨rfl, HO2.out⟩)
    | false =>
     rw [Bool.false_or] at hr
     by_cases h48 : b.toNat = 48
     ·have e48 : b = 48 := UInt8.toNat_inj.1 h48
      have h48' : (((b.toNat : Nat) : Int) == 48) = true := by rw [h48]; rfl
      obtain rfl : false = r := by rw [← hr, e48]; decide
      clear hr e48
      go_wp2_with fail
      all_goals (go_ret; exact ⟨rfl, HO2.out⟩)
     ·have h48' : (((b.toNat : Nat) : Int) == 48) = false := by rw [beq_eq_false_iff_ne]; omega
      have h48n : (((b.toNat : Nat) : Int) != 48) = true := by rw [bne_iff_ne]; omega
      obtain rfl : true = r := by
       rw [← hr]
       symm
       rw [bne_iff_ne]
       intro e
       have := Option.some.inj e
       rw [this] at h48
       exact h48 rfl
      clear hr
      go_wp2_with fail
      all_goals (go_ret; exact ⟨rfl, HO2.out⟩)
   ·have h9' : ¬ ((s.size : Int) ≤ 9) := by omega
    rw [decide_eq_false h9, Bool.false_and] at hr
    obtain rfl : false = r := hr
    go_wp2_with fail
    all_goals (go_ret; exact ⟨rfl, HO2.out⟩)
def cutB (c : UInt8) : List UInt8 → List (List UInt8)
 | [] => [[]]
 | b :: r => if b = c then [] :: cutB c r else match cutB c r with
  | [] => [[b]]
  | h :: t => (b :: h) :: t
theorem cutB_ne (c : UInt8) : ∀ l, cutB c l ≠ []
 | [] => by simp [cutB]
 | b :: r => by
  unfold cutB
  split
  ·simp
  ·split <;> simp
theorem cutB_none {c : UInt8} : ∀ {l : List UInt8}, (∀ b ∈ l, b ≠ c) → cutB c l = [l]
 | [], _ => rfl
 | b :: r, h => by
  have ih := cutB_none (c := c) (l := r) fun x hx => h x (List.mem_cons_of_mem _ hx)
  unfold cutB
  rw [if_neg (h b List.mem_cons_self), ih]
theorem cutB_at {c : UInt8} : ∀ {l r : List UInt8}, (∀ b ∈ l, b ≠ c) → cutB c (l ++ c :: r) = l :: cutB c r
 | [], r, _ => by
  show cutB c (c :: r) = _
  rw [cutB, if_pos rfl]
 | b :: l, r, h => by
  have ih := cutB_at (c := c) (l := l) (r := r) fun x hx => h x (List.mem_cons_of_mem _ hx)
  show cutB c (b :: (l ++ c :: r)) = _
  rw [cutB, if_neg (h b List.mem_cons_self), ih]
theorem ext_toList (s : Str) (i j : Nat) : (s.extract i j).toList = (s.toList.drop i).take (j - i) := by
 rw [ByteArray.toList_eq, ByteArray.toList_eq, ByteArray.data_extract, Array.toList_extract]
end
end Go.Proofs.YtmlfchjompfmaaaGreatDoor
namespace Go.Proofs.YtmlfchjompfmaaaGreatDoor
open Go.RowKit
section
variable {w w' : World} {B : Nat}
def Texts (w w' : World) (v : Value) (L : List (List UInt8)) : Prop := ∃ l : List Str, l.map ByteArray.toList = L ∧ w'.ownsRow 0 9 1 v l.length (strs9 l) ∧ (∀ s ∈ l, okS s) ∧ (∀ k, v.ownBlock = some k → w.heap.size ≤ k)
theorem Texts.row {w0 : World} {v : Value} {L : List (List UInt8)} (h : Texts w0 w v L) : ∃ l : List Str, l.map ByteArray.toList = L ∧ RowT 1 StrC w.heap.size w v l := by
 obtain ⟨l, h0, h1, h2, h3⟩ := h
 exact ⟨l, h0, strs_read rfl h1 h2⟩
def CutS (s : Str) (d : UInt8) (f i : Nat) (l : List Str) : Prop :=
 (i ≤ s.size → (l.map ByteArray.toList ++ cutB d (s.toList.drop f) = cutB d s.toList ∧ ∀ b ∈ (s.toList.drop f).take (i - f), b ≠ d)) ∧ (s.size < i → l.map ByteArray.toList = cutB d s.toList)
theorem drop_split {s : Str} {f i : Nat} (hf : f ≤ i) (hi : i < s.size) : s.toList.drop f = (s.toList.drop f).take (i - f) ++ s[i] :: s.toList.drop (i + 1) := by
 conv => lhs; rw [← List.take_append_drop (i - f) (s.toList.drop f)]
 congr 1
 rw [List.drop_drop, show f + (i - f) = i by omega]
 have hl : i < s.toList.length := by rw [size_toList]; exact hi
 rw [List.drop_eq_getElem_cons hl, toList_get hl hi]
theorem CutS.cut {s : Str} {d : UInt8} {f i : Nat} {l : List Str} (h : CutS s d f i l) (hf : f ≤ i) (hi : i < s.size) (hb : s[i] = d) : CutS s d (i + 1) (i + 1) (l ++ [s.extract f i]) := by
 obtain ⟨h1, h2⟩ := h.1 (by omega)
 refine ⟨fun _ => ⟨?_, fun b hb' => by simp at hb'⟩, fun h => by omega⟩
 rw [drop_split hf hi, hb, cutB_at h2] at h1
 rw [List.map_append, List.append_assoc, List.map_cons, List.map_nil, ext_toList]
 exact h1
theorem CutS.last {s : Str} {d : UInt8} {f : Nat} {l : List Str} (h : CutS s d f s.size l) (hf : f ≤ s.size) : CutS s d (s.size + 1) (s.size + 1) (l ++ [s.extract f s.size]) := by
 obtain ⟨h1, h2⟩ := h.1 (Nat.le_refl _)
 refine ⟨fun h => by omega, fun _ => ?_⟩
 have ht : (s.toList.drop f).take (s.size - f) = s.toList.drop f := List.take_of_length_le (by rw [List.length_drop, size_toList]; exact Nat.le_refl _)
 rw [ht] at h2
 rw [cutB_none h2] at h1
 rw [List.map_append, List.map_cons, List.map_nil, ext_toList, ht]
 exact h1
theorem CutS.go {s : Str} {d : UInt8} {f i : Nat} {l : List Str} (h : CutS s d f i l) (hf : f ≤ i) (hi : i < s.size) (hb : s[i] ≠ d) : CutS s d f (i + 1) l := by
 obtain ⟨h1, h2⟩ := h.1 (by omega)
 refine ⟨fun _ => ⟨h1, fun b hb' => ?_⟩, fun h => by omega⟩
 have e : (s.toList.drop f).take (i + 1 - f) = (s.toList.drop f).take (i - f) ++ [s[i]] := by
  rw [show i + 1 - f = (i - f) + 1 by omega, List.take_add_one, List.getElem?_drop, show f + (i - f) = i by omega, toList_at hi]
  rfl
 rw [e] at hb'
 rcases List.mem_append.1 hb' with hb' | hb'
 ·exact h2 b hb'
 ·rw [List.mem_singleton.1 hb']; exact hb
set_option maxRecDepth 100000 in
set_option maxHeartbeats 2000000 in
theorem Cut_x (s : Str) (hs : s.size ≤ 1000000) (d : UInt8) (c : Int) (hc : (d.toNat : Int) = c) : Calls Tryz.prog 36 #[.string s, .int .u8 c] w (fun e w' => ∃ v, e = .returned v ∧ Texts w w' v (cutB d s.toList) ∧ Only (fun _ => False) w w') := by
 have HD := Lib.hid hc
 have HS0 : Hid (CutS s d 0 0 []) := ⟨fun _ => ⟨rfl, fun b hb => by simp at hb⟩, fun h => by omega⟩
 clear hc
 go_enter Tryz.func36, Tryz.ntmps36
 go_wp2_with fail
 go_loopw [5, 6, 7] (fun vo vf vi wr => Hid (Only (fun _ => False) w wr) ∧ ∃ (f i : Nat) (l : List Str), vf = .int .i64 f ∧ vi = .int .i64 i ∧ f ≤ i ∧ i ≤ s.size + 1 ∧ l.length ≤ i ∧ Hid (wr.ownsRow 0 9 1 vo l.length (strs9 l)) ∧ Hid (∀ s ∈ l, okS s) ∧ Hid (∀ k, vo.ownBlock = some k → w.heap.size ≤ k) ∧ Hid (CutS s d f i l)) (fun _ _ v _ => s.size + 1 - (RowKit.intOf v).toNat)
 case atStart => exact ⟨show Hid _ from (Only.refl _ _).alloc _, 0, 0, [], rfl, rfl, Nat.le_refl _, Nat.zero_le _, Nat.le_refl _, show Hid _ from own_litS w, show Hid _ from fun s hs => (by cases hs), show Hid _ from fun k hk => (by simp [Value.ownBlock] at hk; omega), HS0⟩
 case round =>
  clear HS0
  obtain ⟨wri, rfl⟩ : ∃ W, W = wr := ⟨_, rfl⟩
  obtain ⟨HO, f, i, l, rfl, rfl, hfi, hi, hl, HV, Hk, HB, HC⟩ := hrel
  obtain ⟨n, hn⟩ : ∃ n, l.length = n := ⟨_, rfl⟩
  rw [hn] at HV hl
  obtain ⟨au, cu, rfl, -, -⟩ := own_slice HV.out
  have HN := Lib.hid hn
  clear hn
  by_cases ci : i ≤ s.size
  ·have ewi : IntKind.i64.wrap ((i : Int) + 1) = (i : Int) + 1 := by rw [IntKind.wrap_i64]; omega
   have hle : (i : Int) ≤ (s.size : Int) := by omega
   have hsl : ∀ W, (Instr.slice 9 (.string s) (some (.int .i64 (f : Int))) (some (.int .i64 (i : Int))) none).run Tryz.prog W = .ok (.string (s.extract f i)) W := fun W => by
    rw [Go.run_slice_string_if W 9 s .i64 .i64 f i Tryz.underlying9, if_pos (by omega), if_pos (by omega)]
    simp
   have app : ∀ (P : Prop), P → P := fun _ h => h
   by_cases ce : i = s.size
   ·have HC2 : Hid (CutS s d (s.size + 1) (s.size + 1) (l ++ [s.extract f s.size])) := by rw [ce] at HC; exact HC.out.last (by omega)
    subst ce
    go_wp2_with (at_builtin; go_must (refine wpA1 (u := .string (s.extract f s.size)) slStr9 rfl (.tmp 26) (.tmp 31) rfl rfl rfl (cell_new0 _ _ _) rfl (own_only HV.out ((Only.refl (fun _ => False) _).alloc _) (fun _ _ f => f)) (by omega) (by decide) ?_))
    intro v' w2 r1 r2 r3
    have HV2 : Hid (w2.ownsRow 0 9 1 v' (l ++ [s.extract f s.size]).length (strs9 (l ++ [s.extract f s.size]))) := by
     rw [List.length_append, HN.out]
     simpa [strs9, Hid] using r1
    have HO2 := Lib.hid (((HO.out.alloc _).trans r2 fun k hk => .inr (HB.out k hk)))
    have Hk2 : Hid (∀ t ∈ l ++ [s.extract f s.size], okS t) := fun t ht => by
     rcases List.mem_append.1 ht with h | h
     ·exact Hk.out t h
     ·obtain rfl := List.mem_singleton.1 h
      exact okS_slice (by unfold okS maxLen; omega) _ _
    have HB2 : Hid (∀ k, v'.ownBlock = some k → w.heap.size ≤ k) := by
     intro k hk
     obtain ⟨g, cap', rfl, -, -, h | h⟩ := r3
     ·simp [Value.ownBlock] at hk; subst hk; exact HB.out _ h
     ·simp [Value.ownBlock] at hk; subst hk
      have := HO.out.size
      simp at h; omega
    obtain ⟨g, cap', rfl, -, -, -⟩ := r3
    clear r1 r2
    go_wp2_with fail
    go_roundw
    case rel => exact ⟨HO2, s.size + 1, s.size + 1, l ++ [s.extract f s.size], by first | rfl | go_num, by first | rfl | go_num, Nat.le_refl _, Nat.le_refl _, by rw [List.length_append, HN.out]; simp; omega, HV2, Hk2, HB2, HC2⟩
    case measure => simp [RowKit.intOf] <;> omega
   ·have hlt : i < s.size := by omega
    have hne : ((i : Int) == (s.size : Int)) = false := by rw [beq_eq_false_iff_ne]; omega
    obtain ⟨b, hb⟩ : ∃ b : UInt8, s[i] = b := ⟨_, rfl⟩
    by_cases cb : ((b.toNat : Int) = c)
    ·have hbd : b = d := UInt8.toNat_inj.1 (by have := HD.out; omega)
     have HC2 : Hid (CutS s d (i + 1) (i + 1) (l ++ [s.extract f i])) := HC.out.cut hfi hlt (by rw [hb]; exact hbd)
     clear hbd
     have cb2 : (((b.toNat : Nat) : Int) == c) = true := by rw [cb]; simp
     go_wp2_with (at_builtin; go_must (refine wpA1 (u := .string (s.extract f i)) slStr9 rfl (.tmp 26) (.tmp 31) rfl rfl rfl (cell_new0 _ _ _) rfl (own_only HV.out ((Only.refl (fun _ => False) _).alloc _) (fun _ _ f => f)) (by omega) (by decide) ?_))
     intro v' w2 r1 r2 r3
     have HV2 : Hid (w2.ownsRow 0 9 1 v' (l ++ [s.extract f i]).length (strs9 (l ++ [s.extract f i]))) := by
      rw [List.length_append, HN.out]
      simpa [strs9, Hid] using r1
     have HO2 := Lib.hid (((HO.out.alloc _).trans r2 fun k hk => .inr (HB.out k hk)))
     have Hk2 : Hid (∀ t ∈ l ++ [s.extract f i], okS t) := fun t ht => by
      rcases List.mem_append.1 ht with h | h
      ·exact Hk.out t h
      ·obtain rfl := List.mem_singleton.1 h
       exact okS_slice (by unfold okS maxLen; omega) _ _
     have HB2 : Hid (∀ k, v'.ownBlock = some k → w.heap.size ≤ k) := by
      intro k hk
      obtain ⟨g, cap', rfl, -, -, h | h⟩ := r3
      ·simp [Value.ownBlock] at hk; subst hk; exact HB.out _ h
      ·simp [Value.ownBlock] at hk; subst hk
       have := HO.out.size
       simp at h; omega
     obtain ⟨g, cap', rfl, -, -, -⟩ := r3
     clear r1 r2
     go_wp2_with fail
     go_roundw
     case rel => exact ⟨HO2, i + 1, i + 1, l ++ [s.extract f i], by first | rfl | go_num, by first | rfl | go_num, Nat.le_refl _, by omega, by rw [List.length_append, HN.out]; simp; omega, HV2, Hk2, HB2, HC2⟩
     case measure => simp [RowKit.intOf] <;> omega
    ·have hbd : b ≠ d := fun e => cb (by rw [e]; exact HD.out)
     have HC2 : Hid (CutS s d f (i + 1) l) := HC.out.go hfi hlt (by rw [hb]; exact hbd)
     clear hbd
     have cb2 : (((b.toNat : Nat) : Int) == c) = false := by rw [beq_eq_false_iff_ne]; exact cb
     have HV2 : Hid (wri.ownsRow 0 9 1 (.slice au n cu) l.length (strs9 l)) := by rw [HN.out]; exact HV.out
     go_wp2_with fail
     go_roundw
     case rel => exact ⟨HO, f, i + 1, l, by first | rfl | go_num, by first | rfl | go_num, by omega, by omega, by rw [HN.out]; omega, HV2, Hk, HB, HC2⟩
     case measure => simp [RowKit.intOf] <;> omega
  ·have hnle : ¬ ((i : Int) ≤ (s.size : Int)) := by omega
   go_wp2_with fail
   go_ret
   exact ⟨_, rfl, ⟨l, HC.out.2 (by omega), by rw [HN.out]; exact HV.out, Hk.out, HB.out⟩, HO.out⟩
end
end Go.Proofs.YtmlfchjompfmaaaGreatDoor
namespace Go.Proofs.YtmlfchjompfmaaaGreatDoor
open Go.RowKit
open Vn (dgs lts partB beB)
theorem bytesLess_x : ∀ (x y : List UInt8), Op.bytesLess x y = decide (x < y)
 | [], [] => by simp [Op.bytesLess]
 | [], _ :: _ => by simp [Op.bytesLess]
 | _ :: _, [] => by simp [Op.bytesLess]
 | a :: x, b :: y => by
  rw [Op.bytesLess, bytesLess_x x y]
  simp only [List.cons_lt_cons_iff]
  by_cases h1 : a < b <;> by_cases h2 : a = b <;> by_cases h3 : x < y <;> simp [h1, h2, h3]
def mayB (l : List UInt8) : Bool := decide (0 < l.length) && decide (l.length ≤ 40) && (cutB 46 l).all partB && decide ((cutB 46 l).length ≤ 8)
section
variable {w w' : World} {B : Nat}
set_option maxRecDepth 100000 in
set_option maxHeartbeats 2000000 in
theorem May_x (s : Str) (hs : okS s) (r : Bool) (hr : mayB s.toList = r) : Calls Tryz.prog 35 #[.string s] w (fun e w' => e = .returned (.bool r) ∧ Only (fun _ => False) w w') := by
 unfold mayB at hr
 rw [size_toList] at hr
 by_cases h0 : s.size = 0
 ·rw [decide_eq_false (by omega), Bool.false_and, Bool.false_and, Bool.false_and] at hr
  subst hr
  obtain rfl := size_zero h0
  clear hs
  go_enter Tryz.func35, Tryz.ntmps35
  go_wp2_with fail
  go_ret
  exact ⟨rfl, Only.refl _ _⟩
 ·rw [decide_eq_true (by omega : 0 < s.size), Bool.true_and] at hr
  have hemp : s.toList.isEmpty = false := by rw [isE, decide_eq_false h0]
  by_cases h40 : 40 < s.size
  ·rw [decide_eq_false (by omega), Bool.false_and, Bool.false_and] at hr
   subst hr
   have h41 : (40 : Int) < (s.size : Int) := by omega
   clear hs
   go_enter Tryz.func35, Tryz.ntmps35
   go_wp2_with fail
   go_ret
   exact ⟨rfl, Only.refl _ _⟩
  ·have h41 : s.size ≤ 40 := by omega
   rw [decide_eq_true h41, Bool.true_and] at hr
   have HRes := Lib.hid hr
   have HC := Lib.hid (Cut_x (w := w) s (by omega) 46 46 rfl)
   clear hs hr
   go_enter Tryz.func35, Tryz.ntmps35
   go_wp2_with fail
   refine HC.out.mono ?_
   rintro e w1 ⟨v, rfl, hT, O1⟩
   obtain ⟨l, hL, hR⟩ := hT.row
   have HL := Lib.hid hL
   have HO1 := Lib.hid O1
   obtain ⟨ao, cap, rfl, hc1, hc2⟩ := hR.shape
   obtain ⟨n, hn⟩ : ∃ n, l.length = n := ⟨_, rfl⟩
   rw [hn] at hR hc1 ⊢
   have HN := Lib.hid hn
   have HR : Hid (∀ W, Only (fun _ => False) w1 W → RowT 1 StrC w1.heap.size W (.slice ao n cap) l) := fun W ho => hR.keep StrC.keep (Kp.of0 ho)
   have HOC : Hid (Only (fun _ => False) w1 w1) := Only.refl _ _
   have HR2 : Hid ((l.all (fun t => partB t.toList) && decide (n ≤ 8)) = r) := by
    rw [← HRes.out, ← hL, List.length_map, hn, List.all_map]
    rfl
   clear O1 HC hn hT hR hL HRes
   go_wp2_with fail
   go_loopw [16] (fun vi wri => Hid (Only (fun _ => False) w1 wri) ∧ ∃ i : Nat, vi = .int .i64 i ∧ i ≤ n ∧ Hid ((l.take i).all (fun t => partB t.toList) = true)) (fun v _ => n - (RowKit.intOf v).toNat)
   case atStart => exact ⟨HOC, 0, rfl, Nat.zero_le _, show Hid _ from rfl⟩
   case round =>
    obtain ⟨wri, rfl⟩ : ∃ W, W = wr := ⟨_, rfl⟩
    clear HOC
    obtain ⟨HOi, i, rfl, hi, HA⟩ := hrel
    by_cases ci : i < n
    ·have ewi : IntKind.i64.wrap ((i : Int) + 1) = (i : Int) + 1 := by rw [IntKind.wrap_i64]; omega
     obtain ⟨y, hx⟩ : ∃ y, l[i]? = some y := ⟨_, List.getElem?_eq_getElem (by rw [HN.out]; exact ci)⟩
     obtain ⟨b, off, he, hok, hE⟩ := StrC_at (HR.out wri HOi.out) hx
     subst he
     have hr := (hE wri (Only.refl _ _)).1
     have g0 := hr 0 _ rfl
     rw [Nat.add_zero, Nat.mul_one] at g0
     obtain ⟨b2, hb2⟩ : ∃ b, partB y.toList = b := ⟨_, rfl⟩
     have HP := Lib.hid (part_x (w := wri) y hok b2 hb2)
     have HX := Lib.hid hx
     have HB2 := Lib.hid hb2
     clear hr hE hx hok hb2
     go_wp2_with fail
     refine HP.out.mono ?_
     rintro e w2 ⟨rfl, O2⟩
     have HO2 := Lib.hid (HOi.out.same O2)
     clear O2 HP g0
     cases b2 with
     | false =>
      have hrf : r = false := by
       rw [← HR2.out]
       have : l.all (fun t => partB t.toList) = false := by
        cases hh : l.all (fun t => partB t.toList)
        ·rfl
        ·rw [List.all_eq_true] at hh
         have := hh y (List.mem_of_getElem? HX.out)
         rw [HB2.out] at this
         cases this
       rw [this]
       rfl
      subst hrf
      clear HR2
      go_wp2_with fail
      go_ret
      exact ⟨rfl, HO1.out.same HO2.out⟩
     | true =>
      have HA2 : Hid ((l.take (i + 1)).all (fun t => partB t.toList) = true) := by
       rw [Hid, List.take_add_one, HX.out]
       simp only [Option.toList_some, List.all_append, HA.out, List.all_cons, HB2.out, List.all_nil]
       rfl
      go_wp2_with fail
      go_roundw
      case rel => exact ⟨HO2, i + 1, by first | rfl | go_num, by omega, HA2⟩
      case measure => simp [RowKit.intOf] <;> omega
    ·obtain rfl : n = i := by omega
     have hr2 := HR2.out
     have ha := HA.out
     rw [List.take_of_length_le (Nat.le_of_eq HN.out)] at ha
     rw [ha, Bool.true_and] at hr2
     clear HR2 ha HA
     by_cases h8 : n ≤ 8
     ·rw [decide_eq_true h8] at hr2
      subst hr2
      have h8' : (n : Int) ≤ 8 := by omega
      go_wp2_with fail
      go_ret
      exact ⟨rfl, HO1.out.same HOi.out⟩
     ·rw [decide_eq_false h8] at hr2
      subst hr2
      have h8' : ¬ ((n : Int) ≤ 8) := by omega
      go_wp2_with fail
      go_ret
      exact ⟨rfl, HO1.out.same HOi.out⟩
set_option maxRecDepth 100000 in
theorem at_x {v : Value} {l : List Str} (h : RowT 1 StrC B w v l) (i : Nat) (hi : i ≤ 1000000000) (t : Str) (ht : l.getD i .empty = t) : Calls Tryz.prog 38 #[v, .int .i64 (i : Int)] w (fun e w' => e = .returned (.string t) ∧ Only (fun _ => False) w w') := by
 obtain ⟨ao, cap, rfl, g1, g2⟩ := h.shape
 obtain ⟨n, hn⟩ : ∃ n, l.length = n := ⟨_, rfl⟩
 by_cases ci : i < l.length
 ·obtain ⟨y, hx⟩ : ∃ y, l[i]? = some y := ⟨_, List.getElem?_eq_getElem ci⟩
  rw [List.getD_eq_getElem?_getD, hx] at ht
  have ht' : y = t := ht
  subst ht'
  obtain ⟨b, off, he, hok, hE⟩ := StrC_at h hx
  subst he
  have hr := (hE w (Only.refl _ _)).1
  have g0 := hr 0 _ rfl
  rw [Nat.add_zero, Nat.mul_one] at g0
  rw [hn] at ci g1 ⊢
  clear hr hE hx h hn ht hok
  go_enter Tryz.func38, Tryz.ntmps38
  go_wp2_with fail
  go_ret
  exact ⟨rfl, Only.refl _ _⟩
 ·rw [List.getD_eq_getElem?_getD, List.getElem?_eq_none (by omega)] at ht
  have ht' : ByteArray.empty = t := ht
  subst ht'
  rw [hn] at ci g1 ⊢
  clear h hn ht
  go_enter Tryz.func38, Tryz.ntmps38
  go_wp2_with fail
  go_ret
  exact ⟨rfl, Only.refl _ _⟩
theorem toList_inj {a b : Str} (h : a.toList = b.toList) : a = b := by
 rw [ByteArray.toList_eq, ByteArray.toList_eq] at h
 cases a with | mk x => cases b with | mk y =>
  congr 1
  exact Array.toList_inj.1 h
set_option maxRecDepth 100000 in
set_option maxHeartbeats 2000000 in
theorem before_x (a b : Str) (ha : okS a) (hb : okS b) (r : Bool) (hr : beB a.toList b.toList = r) : Calls Tryz.prog 37 #[.string a, .string b] w (fun e w' => e = .returned (.bool r) ∧ Only (fun _ => False) w w') := by
 have hbd := bytes_dec a b
 obtain ⟨ee, hee⟩ : ∃ e, decide (a = b) = e := ⟨_, rfl⟩
 rw [hee] at hbd
 obtain ⟨ea, hea⟩ : ∃ e, a.toList.isEmpty = e := ⟨_, rfl⟩
 obtain ⟨eb, heb⟩ : ∃ e, b.toList.isEmpty = e := ⟨_, rfl⟩
 obtain ⟨la, hla⟩ : ∃ x, lts a.toList = x := ⟨_, rfl⟩
 obtain ⟨lb, hlb⟩ : ∃ x, lts b.toList = x := ⟨_, rfl⟩
 obtain ⟨da, hda⟩ : ∃ x, dgs a.toList = x := ⟨_, rfl⟩
 obtain ⟨db, hdb⟩ : ∃ x, dgs b.toList = x := ⟨_, rfl⟩
 have HLa : Hid (∀ W, Calls Tryz.prog 53 #[.string a] W (fun e w' => e = .returned (.bool la) ∧ Only (fun _ => False) W w')) := fun W => Letters_x a ha la hla
 have HLb : Hid (∀ W, Calls Tryz.prog 53 #[.string b] W (fun e w' => e = .returned (.bool lb) ∧ Only (fun _ => False) W w')) := fun W => Letters_x b hb lb hlb
 have HDa : Hid (∀ W, Calls Tryz.prog 52 #[.string a] W (fun e w' => e = .returned (.bool da) ∧ Only (fun _ => False) W w')) := fun W => Digits_x a ha da hda
 have HDb : Hid (∀ W, Calls Tryz.prog 52 #[.string b] W (fun e w' => e = .returned (.bool db) ∧ Only (fun _ => False) W w')) := fun W => Digits_x b hb db hdb
 have hr2 : (if ee = true then false else if ea = true then db else if eb = true then la else if (la != lb) = true then la else if (da && (a.size != b.size)) = true then decide (a.size < b.size) else Op.bytesLess a.toList b.toList) = r := by
  rw [← hr]
  unfold beB
  have e1 : (ee = true) = (a.toList = b.toList) := by
   rw [← hee, decide_eq_true_eq, eq_iff_iff]
   exact ⟨fun h => by rw [h], toList_inj⟩
  have e2 : (ea = true) = (a.toList = []) := by rw [← hea, List.isEmpty_iff]
  have e3 : (eb = true) = (b.toList = []) := by rw [← heb, List.isEmpty_iff]
  simp only [e1, e2, e3, hla, hlb, hda, hdb, size_toList, bytesLess_x]
 clear ha hb hr hee hla hlb hda hdb
 have HRes := Lib.hid hr2
 clear hr2
 go_enter Tryz.func37, Tryz.ntmps37
 cases ee with
 | true =>
  have hres := HRes.out
  simp only [if_true] at hres
  subst hres
  clear HRes
  go_wp2_with fail
  go_ret
  exact ⟨rfl, Only.refl _ _⟩
 | false =>
  cases ea with
  | true =>
   have hres := HRes.out
   simp only [Bool.false_eq_true, if_true, if_false] at hres
   subst hres
   clear HRes
   go_wp2_with fail
   refine (HDb.out _).mono ?_
   rintro e w1 ⟨rfl, O1⟩
   have HO1 := Lib.hid O1
   clear O1
   go_wp2_with fail
   go_ret
   exact ⟨rfl, HO1.out⟩
  | false =>
   cases eb with
   | true =>
    have hres := HRes.out
    simp only [Bool.false_eq_true, if_true, if_false] at hres
    subst hres
    clear HRes
    go_wp2_with fail
    refine (HLa.out _).mono ?_
    rintro e w1 ⟨rfl, O1⟩
    have HO1 := Lib.hid O1
    clear O1
    go_wp2_with fail
    go_ret
    exact ⟨rfl, HO1.out⟩
   | false =>
    go_wp2_with fail
    refine (HLa.out _).mono ?_
    rintro e w1 ⟨rfl, O1⟩
    have HO1 := Lib.hid O1
    clear O1
    go_wp2_with fail
    refine (HLb.out _).mono ?_
    rintro e w2 ⟨rfl, O2⟩
    have HO2 := Lib.hid (HO1.out.same O2)
    clear O2 HO1
    cases la <;> cases lb
    case false.true | true.false =>
     have hres := HRes.out
     first
      | (have hres2 : true = r := hres; subst hres2)
      | (have hres2 : false = r := hres; subst hres2)
     clear hres
     clear HRes
     go_wp2_with fail
     refine (HLa.out _).mono ?_
     rintro e w3 ⟨rfl, O3⟩
     have HO3 := Lib.hid (HO2.out.same O3)
     clear O3 HO2
     go_wp2_with fail
     go_ret
     exact ⟨rfl, HO3.out⟩
    case false.false | true.true =>
     have HRes3 : Hid ((if (da && (a.size != b.size)) = true then decide (a.size < b.size) else Op.bytesLess a.toList b.toList) = r) := by
      exact HRes.out
     clear HRes
     go_wp2_with fail
     refine (HDa.out _).mono ?_
     rintro e w3 ⟨rfl, O3⟩
     have HO3 := Lib.hid (HO2.out.same O3)
     clear O3 HO2
     cases da with
     | false =>
      have hres := HRes3.out
      rw [Bool.false_and, if_neg (by decide)] at hres
      subst hres
      clear HRes3
      go_wp2_with fail
      go_ret
      exact ⟨rfl, HO3.out⟩
     | true =>
      have hres := HRes3.out
      rw [Bool.true_and] at hres
      clear HRes3
      by_cases hl : a.size = b.size
      ·have hl2 : ((a.size : Int) == (b.size : Int)) = true := by rw [hl]; simp
       have hl3 : (a.size != b.size) = false := by rw [hl]; simp
       rw [hl3, if_neg (by decide)] at hres
       subst hres
       clear hl3
       go_wp2_with fail
       all_goals (go_ret; exact ⟨rfl, HO3.out⟩)
      ·have hl2 : ((a.size : Int) == (b.size : Int)) = false := by rw [beq_eq_false_iff_ne]; omega
       have hl3 : (a.size != b.size) = true := by rw [bne_iff_ne]; exact hl
       rw [hl3, if_pos rfl] at hres
       subst hres
       clear hl3
       go_wp2_with fail
       all_goals (go_ret; exact ⟨rfl, HO3.out⟩)
end
end Go.Proofs.YtmlfchjompfmaaaGreatDoor
namespace Go.Proofs.YtmlfchjompfmaaaGreatDoor
open Go.RowKit
open Vn (beB)
def lessR (x y : List (List UInt8)) : Nat → Nat → Bool
 | 0, _ => false
 | k + 1, i => if beB (x.getD i []) (y.getD i []) = true then true else if beB (y.getD i []) (x.getD i []) = true then false else lessR x y k (i + 1)
def lessB (a b : List UInt8) : Bool := if (mayB a && mayB b) = true then lessR (cutB 46 a) (cutB 46 b) (max (cutB 46 a).length (cutB 46 b).length) 0 else !mayB a && mayB b
theorem mayB_size {s : Str} (h : mayB s.toList = true) : s.size ≤ 40 := by
 unfold mayB at h
 simp only [Bool.and_eq_true, decide_eq_true_eq, size_toList] at h
 exact h.1.1.2
theorem mayB_len {s : Str} (h : mayB s.toList = true) : (cutB 46 s.toList).length ≤ 8 := by
 unfold mayB at h
 simp only [Bool.and_eq_true, decide_eq_true_eq] at h
 exact h.2
theorem getD_map_toList (l : List Str) (i : Nat) : (l.map ByteArray.toList).getD i [] = (l.getD i .empty).toList := by
 rw [List.getD_eq_getElem?_getD, List.getD_eq_getElem?_getD, List.getElem?_map]
 cases l[i]? with
 | none => exact (by rw [ByteArray.toList_eq]; rfl : ([] : List UInt8) = ByteArray.toList ByteArray.empty)
 | some x => rfl
theorem RowT.getD_ok {w : World} {B : Nat} {v : Value} {l : List Str} (h : RowT 1 StrC B w v l) (i : Nat) : okS (l.getD i .empty) := by
 obtain ⟨ao, cap, rfl, -, -⟩ := h.shape
 rw [List.getD_eq_getElem?_getD]
 cases hx : l[i]? with
 | none => exact (by unfold okS; decide : okS ByteArray.empty)
 | some y => exact (StrC_at h hx).choose_spec.choose_spec.2.1
section
variable {w w' : World} {B : Nat}
set_option maxRecDepth 100000 in
set_option maxHeartbeats 4000000 in
theorem Less_x (a b : Str) (ha : okS a) (hb : okS b) (r : Bool) (hr : lessB a.toList b.toList = r) : Calls Tryz.prog 20 #[.string a, .string b] w (fun e w' => e = .returned (.bool r) ∧ Only (fun _ => False) w w') := by
 unfold lessB at hr
 obtain ⟨ma, hma⟩ : ∃ x, mayB a.toList = x := ⟨_, rfl⟩
 obtain ⟨mb, hmb⟩ : ∃ x, mayB b.toList = x := ⟨_, rfl⟩
 rw [hma, hmb] at hr
 have HMa : Hid (∀ W, Calls Tryz.prog 35 #[.string a] W (fun e w' => e = .returned (.bool ma) ∧ Only (fun _ => False) W w')) := fun W => May_x a ha ma hma
 have HMb : Hid (∀ W, Calls Tryz.prog 35 #[.string b] W (fun e w' => e = .returned (.bool mb) ∧ Only (fun _ => False) W w')) := fun W => May_x b hb mb hmb
 clear ha hb
 have HRes := Lib.hid hr
 have HMA := Lib.hid hma
 have HMB := Lib.hid hmb
 clear hr hma hmb
 go_enter Tryz.func20, Tryz.ntmps20
 cases ma with
 | false =>
  have hres : (!false && mb) = r := HRes.out
  have hres2 : mb = r := hres
  subst hres2
  clear HRes HMA hres
  go_wp2_with fail
  refine (HMa.out _).mono ?_
  rintro e w1 ⟨rfl, O1⟩
  have HO1 := Lib.hid O1
  clear O1
  go_wp2_with fail
  refine (HMa.out _).mono ?_
  rintro e w2 ⟨rfl, O2⟩
  have HO2 := Lib.hid (HO1.out.same O2)
  clear O2
  go_wp2_with fail
  refine (HMb.out _).mono ?_
  rintro e w3 ⟨rfl, O3⟩
  have HO3 := Lib.hid (HO2.out.same O3)
  clear O3
  go_wp2_with fail
  go_ret
  exact ⟨rfl, HO3.out⟩
 | true =>
  go_wp2_with fail
  refine (HMa.out _).mono ?_
  rintro e w1 ⟨rfl, O1⟩
  have HO1 := Lib.hid O1
  clear O1
  go_wp2_with fail
  refine (HMb.out _).mono ?_
  rintro e w2 ⟨rfl, O2⟩
  have HO2 := Lib.hid (HO1.out.same O2)
  clear O2
  cases mb with
  | false =>
   have hres : false = r := HRes.out
   subst hres
   clear HRes HMA HMB
   go_wp2_with fail
   refine (HMa.out _).mono ?_
   rintro e w3 ⟨rfl, O3⟩
   have HO3 := Lib.hid (HO2.out.same O3)
   clear O3
   go_wp2_with fail
   go_ret
   exact ⟨rfl, HO3.out⟩
  | true =>
   have hres : lessR (cutB 46 a.toList) (cutB 46 b.toList) (max (cutB 46 a.toList).length (cutB 46 b.toList).length) 0 = r := HRes.out
   have HCa := Lib.hid (Cut_x (w := w2) a (Nat.le_trans (mayB_size HMA.out) (by decide)) 46 46 rfl)
   have HCb : Hid (∀ W, _) := fun W => Cut_x (w := W) b (Nat.le_trans (mayB_size HMB.out) (by decide)) 46 46 rfl
   clear HMa HMb HRes
   have HRes := Lib.hid hres
   clear hres
   go_wp2_with fail
   refine HCa.out.mono ?_
   rintro e w3 ⟨va, rfl, hTa, O3⟩
   obtain ⟨la, hLa, hRa⟩ := hTa.row
   have HO3 := Lib.hid (HO2.out.same O3)
   obtain ⟨aa, ca, rfl, ka1, ka2⟩ := hRa.shape
   obtain ⟨na, hna⟩ : ∃ n, la.length = n := ⟨_, rfl⟩
   rw [hna] at hRa ka1 ⊢
   have HNa := Lib.hid hna
   have HLa := Lib.hid hLa
   clear hTa O3 hna HCa hLa
   go_wp2_with fail
   refine (HCb.out _).mono ?_
   rintro e w4 ⟨vb, rfl, hTb, O4⟩
   obtain ⟨lb, hLb, hRb⟩ := hTb.row
   have HO4 := Lib.hid (HO3.out.same O4)
   obtain ⟨ab, cb, rfl, kb1, kb2⟩ := hRb.shape
   obtain ⟨nb, hnb⟩ : ∃ n, lb.length = n := ⟨_, rfl⟩
   rw [hnb] at hRb kb1 ⊢
   have HAa : Hid (∀ W (i : Nat) (t : Str), i ≤ 1000000000 → la.getD i .empty = t → Only (fun _ => False) w4 W → Calls Tryz.prog 38 #[.slice aa na ca, .int .i64 (i : Int)] W (fun e w' => e = .returned (.string t) ∧ Only (fun _ => False) W w')) := fun W i t hi ht hW => at_x (hRa.keep StrC.keep (Kp.of0 (O4.same hW))) i hi t ht
   have HAb : Hid (∀ W (i : Nat) (t : Str), i ≤ 1000000000 → lb.getD i .empty = t → Only (fun _ => False) w4 W → Calls Tryz.prog 38 #[.slice ab nb cb, .int .i64 (i : Int)] W (fun e w' => e = .returned (.string t) ∧ Only (fun _ => False) W w')) := fun W i t hi ht hW => at_x (hRb.keep StrC.keep (Kp.of0 hW)) i hi t ht
   have HKa : Hid (∀ i, okS (la.getD i .empty)) := fun i => hRa.getD_ok i
   have HKb : Hid (∀ i, okS (lb.getD i .empty)) := fun i => hRb.getD_ok i
   obtain ⟨m, hm⟩ : ∃ m, max na nb = m := ⟨_, rfl⟩
   have hm1 : m ≤ 1000000000 := by
    have h1 := mayB_len HMA.out
    have h2 := mayB_len HMB.out
    rw [← HLa.out, List.length_map, HNa.out] at h1
    rw [← hLb, List.length_map, hnb] at h2
    omega
   have HR0 : Hid (lessR (la.map ByteArray.toList) (lb.map ByteArray.toList) m 0 = r) := by
    have h := HRes.out
    rw [← HLa.out, ← hLb, List.length_map, List.length_map, HNa.out, hnb, hm] at h
    exact h
   have HM := Lib.hid hm
   have HOC : Hid (Only (fun _ => False) w4 w4) := Only.refl _ _
   clear hTb O4 hnb HCb hRa hRb hm HRes HLa hLb HNa HMA HMB
   go_wp2_with fail
   go_loopw [7] (fun vi wri => Hid (Only (fun _ => False) w4 wri) ∧ ∃ i : Nat, vi = .int .i64 i ∧ i ≤ m ∧ Hid (lessR (la.map ByteArray.toList) (lb.map ByteArray.toList) (m - i) i = r)) (fun v _ => m - (RowKit.intOf v).toNat)
   case atStart => exact ⟨HOC, 0, rfl, Nat.zero_le _, HR0⟩
   case round =>
    obtain ⟨wri, rfl⟩ : ∃ W, W = wr := ⟨_, rfl⟩
    clear HOC HR0
    obtain ⟨HOi, i, rfl, hi, HRi⟩ := hrel
    by_cases ci : i < m
    ·have ewi : IntKind.i64.wrap ((i : Int) + 1) = (i : Int) + 1 := by rw [IntKind.wrap_i64]; omega
     have hor : i < na ∨ i < nb := by have := HM.out; omega
     obtain ⟨t1, h1⟩ : ∃ t, la.getD i .empty = t := ⟨_, rfl⟩
     obtain ⟨t2, h2⟩ : ∃ t, lb.getD i .empty = t := ⟨_, rfl⟩
     have k1 := HKa.out i
     have k2 := HKb.out i
     rw [h1] at k1
     rw [h2] at k2
     obtain ⟨b1, hb1⟩ : ∃ x, beB t1.toList t2.toList = x := ⟨_, rfl⟩
     obtain ⟨b2, hb2⟩ : ∃ x, beB t2.toList t1.toList = x := ⟨_, rfl⟩
     have HRj : Hid ((if b1 = true then true else if b2 = true then false else lessR (la.map ByteArray.toList) (lb.map ByteArray.toList) (m - (i + 1)) (i + 1)) = r) := by
      have h := HRi.out
      obtain ⟨k, hk⟩ : ∃ k, m - i = k + 1 := ⟨m - i - 1, by omega⟩
      have hk2 : m - (i + 1) = k := by omega
      rw [hk, lessR, getD_map_toList, getD_map_toList, h1, h2, hb1, hb2] at h
      rw [hk2]
      exact h
     have HB1 : Hid (∀ W, Calls Tryz.prog 37 #[.string t1, .string t2] W (fun e w' => e = .returned (.bool b1) ∧ Only (fun _ => False) W w')) := fun W => before_x t1 t2 k1 k2 b1 hb1
     have HB2 : Hid (∀ W, Calls Tryz.prog 37 #[.string t2, .string t1] W (fun e w' => e = .returned (.bool b2) ∧ Only (fun _ => False) W w')) := fun W => before_x t2 t1 k2 k1 b2 hb2
     have H1 := Lib.hid h1
     have H2 := Lib.hid h2
     clear HRi h1 h2 k1 k2 hb1 hb2
     by_cases ca1 : i < na
     ·clear hor
      go_wp2_with fail
      refine (HAa.out _ i t1 (by omega) H1.out HOi.out).mono ?_
      rintro e w5 ⟨rfl, O5⟩
      have HO5 := Lib.hid (HOi.out.same O5)
      clear O5
      go_wp2_with fail
      refine (HAb.out _ i t2 (by omega) H2.out HO5.out).mono ?_
      rintro e w6 ⟨rfl, O6⟩
      have HO6 := Lib.hid (HO5.out.same O6)
      clear O6
      go_wp2_with fail
      refine (HB1.out _).mono ?_
      rintro e w7 ⟨rfl, O7⟩
      have HO7 := Lib.hid (HO6.out.same O7)
      clear O7 HB1
      cases b1 with
      | true =>
       have hr2 : true = r := HRj.out
       subst hr2
       clear HRj
       go_wp2_with fail
       go_ret
       exact ⟨rfl, HO4.out.same HO7.out⟩
      | false =>
       go_wp2_with fail
       refine (HAb.out _ i t2 (by omega) H2.out HO7.out).mono ?_
       rintro e w8 ⟨rfl, O8⟩
       have HO8 := Lib.hid (HO7.out.same O8)
       clear O8
       go_wp2_with fail
       refine (HAa.out _ i t1 (by omega) H1.out HO8.out).mono ?_
       rintro e w9 ⟨rfl, O9⟩
       have HO9 := Lib.hid (HO8.out.same O9)
       clear O9
       go_wp2_with fail
       refine (HB2.out _).mono ?_
       rintro e w10 ⟨rfl, O10⟩
       have HO10 := Lib.hid (HO9.out.same O10)
       clear O10 HB2
       cases b2 with
       | true =>
        have hr2 : false = r := HRj.out
        subst hr2
        clear HRj
        go_wp2_with fail
        go_ret
        exact ⟨rfl, HO4.out.same HO10.out⟩
       | false =>
        have HRk : Hid (lessR (la.map ByteArray.toList) (lb.map ByteArray.toList) (m - (i + 1)) (i + 1) = r) := HRj.out
        go_wp2_with fail
        go_roundw
        case rel => exact ⟨HO10, i + 1, by first | rfl | go_num, by omega, HRk⟩
        case measure => simp [RowKit.intOf] <;> omega
     ·have cb1 : i < nb := by omega
      clear hor
      go_wp2_with fail
      refine (HAa.out _ i t1 (by omega) H1.out HOi.out).mono ?_
      rintro e w5 ⟨rfl, O5⟩
      have HO5 := Lib.hid (HOi.out.same O5)
      clear O5
      go_wp2_with fail
      refine (HAb.out _ i t2 (by omega) H2.out HO5.out).mono ?_
      rintro e w6 ⟨rfl, O6⟩
      have HO6 := Lib.hid (HO5.out.same O6)
      clear O6
      go_wp2_with fail
      refine (HB1.out _).mono ?_
      rintro e w7 ⟨rfl, O7⟩
      have HO7 := Lib.hid (HO6.out.same O7)
      clear O7 HB1
      cases b1 with
      | true =>
       have hr2 : true = r := HRj.out
       subst hr2
       clear HRj
       go_wp2_with fail
       go_ret
       exact ⟨rfl, HO4.out.same HO7.out⟩
      | false =>
       go_wp2_with fail
       refine (HAb.out _ i t2 (by omega) H2.out HO7.out).mono ?_
       rintro e w8 ⟨rfl, O8⟩
       have HO8 := Lib.hid (HO7.out.same O8)
       clear O8
       go_wp2_with fail
       refine (HAa.out _ i t1 (by omega) H1.out HO8.out).mono ?_
       rintro e w9 ⟨rfl, O9⟩
       have HO9 := Lib.hid (HO8.out.same O9)
       clear O9
       go_wp2_with fail
       refine (HB2.out _).mono ?_
       rintro e w10 ⟨rfl, O10⟩
       have HO10 := Lib.hid (HO9.out.same O10)
       clear O10 HB2
       cases b2 with
       | true =>
        have hr2 : false = r := HRj.out
        subst hr2
        clear HRj
        go_wp2_with fail
        go_ret
        exact ⟨rfl, HO4.out.same HO10.out⟩
       | false =>
        have HRk : Hid (lessR (la.map ByteArray.toList) (lb.map ByteArray.toList) (m - (i + 1)) (i + 1) = r) := HRj.out
        go_wp2_with fail
        go_roundw
        case rel => exact ⟨HO10, i + 1, by first | rfl | go_num, by omega, HRk⟩
        case measure => simp [RowKit.intOf] <;> omega
    ·have c1 : ¬ i < na := by have := HM.out; omega
     have c2 : ¬ i < nb := by have := HM.out; omega
     have hr2 : false = r := by
      have h := HRi.out
      rw [show m - i = 0 by omega] at h
      exact h
     subst hr2
     clear HRi
     go_wp2_with fail
     go_ret
     exact ⟨rfl, HO4.out.same HOi.out⟩
end
end Go.Proofs.YtmlfchjompfmaaaGreatDoor

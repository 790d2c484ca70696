/- Vr1 Vr2 Vr3 Vr4, in one text. -/
import Derived.Test.YtbapkcnfacklaaaGreatRfE
import Derived.Deep.MidRow
import Derived.BigFrame
import Derived.Carry
set_option linter.unusedVariables false
namespace Go.Proofs.YtbapkcnfacklaaaGreat
open Go.RowKit
section
variable {w w' : World} {B : Nat}
theorem okS_slice {s : Str} (hs : okS s) (i j : Nat) : okS (s.extract i j) := by
 unfold okS at hs ⊢
 rw [ByteArray.size_extract]
 omega
theorem okS_empty : okS ByteArray.empty := by unfold okS; simp
set_option maxRecDepth 100000 in
theorem Letters_some (s : Str) (hs : okS s) : Calls Tryz.prog 153 #[.string s] w (fun e w' => SomeBool w w' e) := by
 have hs2 : s.size ≤ 9223372036854775807 := by unfold okS maxLen at hs; omega
 clear hs
 go_enter Tryz.func153, Tryz.ntmps153
 go_wp2_with fail
 go_loopw [3] (fun vi wr => IdxRel w s.size vi wr) (fun v _ => s.size - (RowKit.intOf v).toNat)
 case atStart => exact ⟨show Hid _ from Only.refl _ _, 0, rfl, Nat.zero_le _⟩
 case round =>
  obtain ⟨HO, i, rfl, hi⟩ := hrel
  by_cases ci : i < s.size
  ·have ewi : IntKind.i64.wrap ((i : Int) + 1) = (i : Int) + 1 := by rw [IntKind.wrap_i64]; omega
   go_wp2_with fail
   all_goals first
    | (go_ret; exact SomeBool.mk _ rfl HO.out)
    | exact ⟨⟨HO, i + 1, by first | rfl | go_num, by omega⟩, by simp [RowKit.intOf] <;> omega⟩
  ·obtain rfl : s.size = i := by omega
   go_wp2_with fail
   go_ret
   exact SomeBool.mk _ rfl HO.out
def SomeTexts (w w' : World) (v : Value) : Prop := ∃ l : List Str, w'.ownsRow 0 9 1 v l.length (strs9 l) ∧ (∀ s ∈ l, okS s) ∧ (∀ k, v.ownBlock = some k → w.heap.size ≤ k) ∧ l.length ≤ 1000000000
theorem SomeTexts.row {w0 : World} {v : Value} (h : SomeTexts w0 w v) : ∃ l : List Str, RowT 1 StrC w.heap.size w v l ∧ l.length ≤ 1000000000 := by
 obtain ⟨l, h1, h2, h3, h4⟩ := h
 exact ⟨l, strs_read rfl h1 h2, h4⟩
set_option maxRecDepth 100000 in
set_option maxHeartbeats 2000000 in
theorem Cut_some (s : Str) (hs : s.size ≤ 40) (c : Int) : Calls Tryz.prog 145 #[.string s, .int .u8 c] w (fun e w' => ∃ v, e = .returned v ∧ SomeTexts w w' v ∧ Only (fun _ => False) w w') := by
 have HW : Hid (SomeTexts w (w.alloc (.cells #[] 9)) (.slice (some ⟨w.heap.size, 0, none⟩) 0 0)) := ⟨[], own_litS w, fun s hs => (by cases hs), fun k hk => (by simp [Value.ownBlock] at hk; omega), by simp⟩
 go_enter Tryz.func145, Tryz.ntmps145
 go_wp2_with fail
 go_loopw [5, 6, 7] (fun vo vf vi wr => Hid (Only (fun _ => False) w wr) ∧ ∃ (f i : Nat) (l : List Str), vf = .int .i64 f ∧ vi = .int .i64 i ∧ f ≤ i ∧ i ≤ s.size + 1 ∧ l.length ≤ i ∧ Hid (wr.ownsRow 0 9 1 vo l.length (strs9 l)) ∧ Hid (∀ s ∈ l, okS s) ∧ Hid (∀ k, vo.ownBlock = some k → w.heap.size ≤ k)) (fun _ _ v _ => s.size + 1 - (RowKit.intOf v).toNat)
 case atStart => exact ⟨show Hid _ from (Only.refl _ _).alloc _, 0, 0, [], rfl, rfl, Nat.le_refl _, Nat.zero_le _, Nat.le_refl _, show Hid _ from own_litS w, show Hid _ from fun s hs => (by cases hs), show Hid _ from fun k hk => (by simp [Value.ownBlock] at hk; omega)⟩
 case round =>
  clear HW
  obtain ⟨wri, rfl⟩ : ∃ W, W = wr := ⟨_, rfl⟩
  obtain ⟨HO, f, i, l, rfl, rfl, hfi, hi, hl, HV, Hk, HB⟩ := hrel
  obtain ⟨n, hn⟩ : ∃ n, l.length = n := ⟨_, rfl⟩
  rw [hn] at HV hl
  obtain ⟨au, cu, rfl, -, -⟩ := own_slice HV.out
  have HN := Lib.hid hn
  clear hn
  by_cases ci : i ≤ s.size
  ·have ewi : IntKind.i64.wrap ((i : Int) + 1) = (i : Int) + 1 := by rw [IntKind.wrap_i64]; omega
   have hle : (i : Int) ≤ (s.size : Int) := by omega
   have hsl : ∀ W, (Instr.slice 9 (.string s) (some (.int .i64 (f : Int))) (some (.int .i64 (i : Int))) none).run Tryz.prog W = .ok (.string (s.extract f i)) W := fun W => by
    rw [Go.run_slice_string_if W 9 s .i64 .i64 f i Tryz.underlying9, if_pos (by omega), if_pos (by omega)]
    simp
   have app : ∀ (P : Prop), P → P := fun _ h => h
   by_cases ce : i = s.size
   ·subst ce
    go_wp2_with (at_builtin; go_must (refine wpA1 (u := .string (s.extract f s.size)) slStr9 rfl (.tmp 26) (.tmp 31) rfl rfl rfl (cell_new0 _ _ _) rfl (own_only HV.out ((Only.refl (fun _ => False) _).alloc _) (fun _ _ f => f)) (by omega) (by decide) ?_))
    intro v' w2 r1 r2 r3
    have HV2 : Hid (w2.ownsRow 0 9 1 v' (l ++ [s.extract f s.size]).length (strs9 (l ++ [s.extract f s.size]))) := by
     rw [List.length_append, HN.out]
     simpa [strs9, Hid] using r1
    have HO2 := Lib.hid (((HO.out.alloc _).trans r2 fun k hk => .inr (HB.out k hk)))
    have Hk2 : Hid (∀ t ∈ l ++ [s.extract f s.size], okS t) := fun t ht => by
     rcases List.mem_append.1 ht with h | h
     ·exact Hk.out t h
     ·obtain rfl := List.mem_singleton.1 h
      exact okS_slice (by unfold okS maxLen; omega) _ _
    have HB2 : Hid (∀ k, v'.ownBlock = some k → w.heap.size ≤ k) := by
     intro k hk
     obtain ⟨g, cap', rfl, -, -, h | h⟩ := r3
     ·simp [Value.ownBlock] at hk; subst hk; exact HB.out _ h
     ·simp [Value.ownBlock] at hk; subst hk
      have := HO.out.size
      simp at h; omega
    obtain ⟨g, cap', rfl, -, -, -⟩ := r3
    clear r1 r2
    go_wp2_with fail
    go_roundw
    case rel => exact ⟨HO2, s.size + 1, s.size + 1, l ++ [s.extract f s.size], by first | rfl | go_num, by first | rfl | go_num, Nat.le_refl _, Nat.le_refl _, by rw [List.length_append, HN.out]; simp; omega, HV2, Hk2, HB2⟩
    case measure => simp [RowKit.intOf] <;> omega
   ·have hlt : i < s.size := by omega
    have hne : ((i : Int) == (s.size : Int)) = false := by rw [beq_eq_false_iff_ne]; omega
    obtain ⟨b, hb⟩ : ∃ b : UInt8, s[i] = b := ⟨_, rfl⟩
    by_cases cb : ((b.toNat : Int) = c)
    ·have cb2 : (((b.toNat : Nat) : Int) == c) = true := by rw [cb]; simp
     go_wp2_with (at_builtin; go_must (refine wpA1 (u := .string (s.extract f i)) slStr9 rfl (.tmp 26) (.tmp 31) rfl rfl rfl (cell_new0 _ _ _) rfl (own_only HV.out ((Only.refl (fun _ => False) _).alloc _) (fun _ _ f => f)) (by omega) (by decide) ?_))
     intro v' w2 r1 r2 r3
     have HV2 : Hid (w2.ownsRow 0 9 1 v' (l ++ [s.extract f i]).length (strs9 (l ++ [s.extract f i]))) := by
      rw [List.length_append, HN.out]
      simpa [strs9, Hid] using r1
     have HO2 := Lib.hid (((HO.out.alloc _).trans r2 fun k hk => .inr (HB.out k hk)))
     have Hk2 : Hid (∀ t ∈ l ++ [s.extract f i], okS t) := fun t ht => by
      rcases List.mem_append.1 ht with h | h
      ·exact Hk.out t h
      ·obtain rfl := List.mem_singleton.1 h
       exact okS_slice (by unfold okS maxLen; omega) _ _
     have HB2 : Hid (∀ k, v'.ownBlock = some k → w.heap.size ≤ k) := by
      intro k hk
      obtain ⟨g, cap', rfl, -, -, h | h⟩ := r3
      ·simp [Value.ownBlock] at hk; subst hk; exact HB.out _ h
      ·simp [Value.ownBlock] at hk; subst hk
       have := HO.out.size
       simp at h; omega
     obtain ⟨g, cap', rfl, -, -, -⟩ := r3
     clear r1 r2
     go_wp2_with fail
     go_roundw
     case rel => exact ⟨HO2, i + 1, i + 1, l ++ [s.extract f i], by first | rfl | go_num, by first | rfl | go_num, Nat.le_refl _, by omega, by rw [List.length_append, HN.out]; simp; omega, HV2, Hk2, HB2⟩
     case measure => simp [RowKit.intOf] <;> omega
    ·have cb2 : (((b.toNat : Nat) : Int) == c) = false := by rw [beq_eq_false_iff_ne]; exact cb
     have HV2 : Hid (wri.ownsRow 0 9 1 (.slice au n cu) l.length (strs9 l)) := by rw [HN.out]; exact HV.out
     go_wp2_with fail
     go_roundw
     case rel => exact ⟨HO, f, i + 1, l, by first | rfl | go_num, by first | rfl | go_num, by omega, by omega, by rw [HN.out]; omega, HV2, Hk, HB⟩
     case measure => simp [RowKit.intOf] <;> omega
  ·have hnle : ¬ ((i : Int) ≤ (s.size : Int)) := by omega
   go_wp2_with fail
   go_ret
   exact ⟨_, rfl, ⟨l, by rw [HN.out]; exact HV.out, Hk.out, HB.out, by rw [HN.out]; omega⟩, HO.out⟩
end
section
variable {w w' : World} {B : Nat}
theorem size_zero {s : Str} (h : s.size = 0) : s = ⟨#[]⟩ := by
 have : s.data.size = 0 := h
 cases s with | mk d => simp at this; rw [this]
theorem toList_ne {s : Str} (h : 0 < s.size) : s.toList ≠ [] := fun e => by
 have h1 : s.data.toList = [] := by rw [← ByteArray.toList_eq]; exact e
 have : s.data.size = 0 := by rw [← Array.length_toList, h1]; rfl
 have h2 : s.size = 0 := this
 omega
def BoolIf (P : Prop) (w w' : World) (e : Ending) : Prop := ∃ b, e = .returned (.bool b) ∧ (b = true → P) ∧ Only (fun _ => False) w w'
theorem BoolIf.mk {P : Prop} (b : Bool) {w w' : World} {e : Ending} (he : e = .returned (.bool b)) (h : b = true → P) (ho : Only (fun _ => False) w w') : BoolIf P w w' e := ⟨b, he, h, ho⟩
set_option maxRecDepth 100000 in
theorem Digits_pos (s : Str) (hs : okS s) : Calls Tryz.prog 130 #[.string s] w (fun e w' => BoolIf (0 < s.size) w w' e) := by
 by_cases h0 : s.size = 0
 ·obtain rfl := size_zero h0
  clear hs h0
  go_enter Tryz.func130, Tryz.ntmps130
  go_wp2_with fail
  go_loopw [3] (fun vi wr => IdxRel w 0 vi wr) (fun v _ => 0 - (RowKit.intOf v).toNat)
  case atStart => exact ⟨show Hid _ from Only.refl _ _, 0, rfl, Nat.zero_le _⟩
  case round =>
   obtain ⟨HO, i, rfl, hi⟩ := hrel
   obtain rfl : i = 0 := by omega
   go_wp2_with fail
   go_ret
   exact BoolIf.mk _ rfl (fun h => by cases h) HO.out
 ·exact (Digits_some s hs).mono fun e w' ⟨b, he, ho⟩ => ⟨b, he, fun _ => by omega, ho⟩
set_option maxRecDepth 100000 in
theorem part_some (s : Str) (hs : okS s) : Calls Tryz.prog 146 #[.string s] w (fun e w' => SomeBool w w' e) := by
 have HL := Lib.hid (Letters_some (w := w) s hs)
 have HD := fun W => Lib.hid (Digits_pos (w := W) s hs)
 clear hs
 have HDD := Lib.hid HD
 clear HD
 go_enter Tryz.func146, Tryz.ntmps146
 go_wp2_with fail
 refine HL.out.mono ?_
 rintro e w1 ⟨b1, rfl, O1⟩
 have HO1 := Lib.hid O1
 clear O1 HL
 cases b1 with
 | true =>
  go_wp2_with fail
  go_ret
  exact SomeBool.mk _ rfl HO1.out
 | false =>
  go_wp2_with fail
  refine (HDD.out _).out.mono ?_
  rintro e w2 ⟨b2, rfl, hb, O2⟩
  have HO2 := Lib.hid (HO1.out.same O2)
  clear O2 HDD
  cases b2 with
  | false =>
   clear hb
   go_wp2_with fail
   go_ret
   exact SomeBool.mk _ rfl HO2.out
  | true =>
   have hpos := hb rfl
   clear hb
   have hp2 : (0 : Int) < (s.size : Int) := by omega
   go_wp2_with fail
   all_goals (go_ret; exact SomeBool.mk _ rfl HO2.out)
set_option maxRecDepth 100000 in
set_option maxHeartbeats 2000000 in
theorem May1_some (s : Str) (hs : okS s) : Calls Tryz.prog 128 #[.string s] w (fun e w' => BoolIf (s.size ≤ 40) w w' e) := by
 by_cases h0 : s.size = 0
 ·obtain rfl := size_zero h0
  clear hs
  go_enter Tryz.func128, Tryz.ntmps128
  go_wp2_with fail
  go_ret
  exact BoolIf.mk _ rfl (fun h => by cases h) (Only.refl _ _)
 ·have hne := toList_ne (s := s) (by omega)
  have hemp : s.toList.isEmpty = false := by cases h : s.toList with | nil => exact absurd h hne | cons a b => rfl
  clear hne
  by_cases h40 : 40 < s.size
  ·have h41 : (40 : Int) < (s.size : Int) := by omega
   clear hs
   go_enter Tryz.func128, Tryz.ntmps128
   go_wp2_with fail
   go_ret
   exact BoolIf.mk _ rfl (fun h => by cases h) (Only.refl _ _)
  ·have h41 : s.size ≤ 40 := by omega
   have HC := Lib.hid (Cut_some (w := w) s h41 46)
   clear hs
   go_enter Tryz.func128, Tryz.ntmps128
   go_wp2_with fail
   refine HC.out.mono ?_
   rintro e w1 ⟨v, rfl, hT, O1⟩
   obtain ⟨l, hR, hln⟩ := hT.row
   have HO1 := Lib.hid O1
   obtain ⟨ao, cap, rfl, -, -⟩ := hR.shape
   obtain ⟨n, hn⟩ : ∃ n, l.length = n := ⟨_, rfl⟩
   rw [hn] at hR hln ⊢
   have HN := Lib.hid hn
   have HR : Hid (∀ W, Only (fun _ => False) w1 W → RowT 1 StrC w1.heap.size W (.slice ao n cap) l) := fun W ho => hR.keep StrC.keep (Kp.of0 ho)
   have HOC : Hid (Only (fun _ => False) w1 w1) := Only.refl _ _
   clear O1 HC hn hT hR
   go_wp2_with fail
   go_loopw [16] (fun vi wri => Hid (Only (fun _ => False) w1 wri) ∧ ∃ i : Nat, vi = .int .i64 i ∧ i ≤ n) (fun v _ => n - (RowKit.intOf v).toNat)
   case atStart => exact ⟨HOC, 0, rfl, Nat.zero_le _⟩
   case round =>
    obtain ⟨wri, rfl⟩ : ∃ W, W = wr := ⟨_, rfl⟩
    clear HOC
    obtain ⟨HOi, i, rfl, hi⟩ := hrel
    by_cases ci : i < n
    ·have ewi : IntKind.i64.wrap ((i : Int) + 1) = (i : Int) + 1 := by rw [IntKind.wrap_i64]; omega
     obtain ⟨y, hx⟩ : ∃ y, l[i]? = some y := ⟨_, List.getElem?_eq_getElem (by rw [HN.out]; exact ci)⟩
     obtain ⟨b, off, he, hok, hE⟩ := StrC_at (HR.out wri HOi.out) hx
     subst he
     have hr := (hE wri (Only.refl _ _)).1
     have g0 := hr 0 _ rfl
     rw [Nat.add_zero, Nat.mul_one] at g0
     have HP := Lib.hid (part_some (w := wri) y hok)
     clear hr hE hx hok
     go_wp2_with fail
     refine HP.out.mono ?_
     rintro e w2 ⟨b2, rfl, O2⟩
     have HO2 := Lib.hid (HOi.out.same O2)
     clear O2 HP g0
     cases b2 with
     | false =>
      go_wp2_with fail
      go_ret
      exact BoolIf.mk _ rfl (fun h => by cases h) (HO1.out.same HO2.out)
     | true =>
      go_wp2_with fail
      go_roundw
      case rel => exact ⟨HO2, i + 1, by first | rfl | go_num, by omega⟩
      case measure => simp [RowKit.intOf] <;> omega
    ·obtain rfl : n = i := by omega
     go_wp2_with fail
     go_ret
     exact BoolIf.mk _ rfl (fun _ => h41) (HO1.out.same HOi.out)
set_option maxRecDepth 100000 in
theorem at_some {v : Value} {l : List Str} (h : RowT 1 StrC B w v l) (i : Nat) (hi : i ≤ 1000000000) : Calls Tryz.prog 148 #[v, .int .i64 (i : Int)] w (fun e w' => ∃ t, e = .returned (.string t) ∧ okS t ∧ Only (fun _ => False) w w') := by
 obtain ⟨ao, cap, rfl, g1, g2⟩ := h.shape
 obtain ⟨n, hn⟩ : ∃ n, l.length = n := ⟨_, rfl⟩
 by_cases ci : i < l.length
 ·obtain ⟨y, hx⟩ : ∃ y, l[i]? = some y := ⟨_, List.getElem?_eq_getElem ci⟩
  obtain ⟨b, off, he, hok, hE⟩ := StrC_at h hx
  subst he
  have hr := (hE w (Only.refl _ _)).1
  have g0 := hr 0 _ rfl
  rw [Nat.add_zero, Nat.mul_one] at g0
  rw [hn] at ci g1 ⊢
  have HK := Lib.hid hok
  clear hr hE hx hok h hn
  go_enter Tryz.func148, Tryz.ntmps148
  go_wp2_with fail
  go_ret
  exact ⟨_, rfl, HK.out, Only.refl _ _⟩
 ·rw [hn] at ci g1 ⊢
  clear h hn
  go_enter Tryz.func148, Tryz.ntmps148
  go_wp2_with fail
  go_ret
  exact ⟨_, rfl, okS_empty, Only.refl _ _⟩
set_option maxRecDepth 100000 in
set_option maxHeartbeats 2000000 in
theorem before_some (a b : Str) (ha : okS a) (hb : okS b) : Calls Tryz.prog 147 #[.string a, .string b] w (fun e w' => SomeBool w w' e) := by
 have hbd := bytes_dec a b
 obtain ⟨ee, hee⟩ : ∃ e, decide (a = b) = e := ⟨_, rfl⟩
 rw [hee] at hbd
 clear hee
 obtain ⟨ea, hea⟩ : ∃ e, a.toList.isEmpty = e := ⟨_, rfl⟩
 obtain ⟨eb, heb⟩ : ∃ e, b.toList.isEmpty = e := ⟨_, rfl⟩
 have HLa : Hid (∀ W, Calls Tryz.prog 153 #[.string a] W (fun e w' => SomeBool W w' e)) := fun W => Letters_some a ha
 have HLb : Hid (∀ W, Calls Tryz.prog 153 #[.string b] W (fun e w' => SomeBool W w' e)) := fun W => Letters_some b hb
 have HDa : Hid (∀ W, Calls Tryz.prog 130 #[.string a] W (fun e w' => SomeBool W w' e)) := fun W => Digits_some a ha
 have HDb : Hid (∀ W, Calls Tryz.prog 130 #[.string b] W (fun e w' => SomeBool W w' e)) := fun W => Digits_some b hb
 clear ha hb
 go_enter Tryz.func147, Tryz.ntmps147
 cases ee with
 | true =>
  go_wp2_with fail
  go_ret
  exact SomeBool.mk _ rfl (Only.refl _ _)
 | false =>
  cases ea with
  | true =>
   go_wp2_with fail
   refine (HDb.out _).mono ?_
   rintro e w1 ⟨b1, rfl, O1⟩
   have HO1 := Lib.hid O1
   clear O1
   go_wp2_with fail
   go_ret
   exact SomeBool.mk _ rfl HO1.out
  | false =>
   cases eb with
   | true =>
    go_wp2_with fail
    refine (HLa.out _).mono ?_
    rintro e w1 ⟨b1, rfl, O1⟩
    have HO1 := Lib.hid O1
    clear O1
    go_wp2_with fail
    go_ret
    exact SomeBool.mk _ rfl HO1.out
   | false =>
    go_wp2_with fail
    refine (HLa.out _).mono ?_
    rintro e w1 ⟨b1, rfl, O1⟩
    have HO1 := Lib.hid O1
    clear O1
    go_wp2_with fail
    refine (HLb.out _).mono ?_
    rintro e w2 ⟨b2, rfl, O2⟩
    have HO2 := Lib.hid (HO1.out.same O2)
    clear O2 HO1
    have last : Hid (∀ W, Only (fun _ => False) w W → True) := fun _ _ => trivial
    clear last
    obtain ⟨nn, hnn⟩ : ∃ n : Bool, (b1 != b2) = n := ⟨_, rfl⟩
    cases b1 <;> cases b2
    case false.true | true.false =>
     clear hnn
     go_wp2_with fail
     refine (HLa.out _).mono ?_
     rintro e w3 ⟨b3, rfl, O3⟩
     have HO3 := Lib.hid (HO2.out.same O3)
     clear O3 HO2
     go_wp2_with fail
     go_ret
     exact SomeBool.mk _ rfl HO3.out
    case false.false | true.true =>
     clear hnn
     go_wp2_with fail
     refine (HDa.out _).mono ?_
     rintro e w3 ⟨b3, rfl, O3⟩
     have HO3 := Lib.hid (HO2.out.same O3)
     clear O3 HO2
     cases b3 with
     | false =>
      go_wp2_with fail
      go_ret
      exact SomeBool.mk _ rfl HO3.out
     | true =>
      by_cases hl : a.size = b.size
      ·have hl2 : ((a.size : Int) == (b.size : Int)) = true := by rw [hl]; simp
       go_wp2_with fail
       all_goals (go_ret; exact SomeBool.mk _ rfl HO3.out)
      ·have hl2 : ((a.size : Int) == (b.size : Int)) = false := by rw [beq_eq_false_iff_ne]; omega
       go_wp2_with fail
       all_goals (go_ret; exact SomeBool.mk _ rfl HO3.out)
end
section
variable {w w' : World} {B : Nat}
def LessRel (w1 : World) (n : Nat) (v : Value) (wr : World) : Prop := Hid (Only (fun _ => False) w1 wr) ∧ ∃ i : Nat, v = .int .i64 i ∧ i ≤ n
set_option maxRecDepth 100000 in
set_option maxHeartbeats 2000000 in
theorem Less_some (a b : Str) (ha : okS a) (hb : okS b) : Calls Tryz.prog 129 #[.string a, .string b] w (fun e w' => SomeBool w w' e) := by
 have HMa : Hid (∀ W, Calls Tryz.prog 128 #[.string a] W (fun e w' => BoolIf (a.size ≤ 40) W w' e)) := fun W => May1_some a ha
 have HMb : Hid (∀ W, Calls Tryz.prog 128 #[.string b] W (fun e w' => BoolIf (b.size ≤ 40) W w' e)) := fun W => May1_some b hb
 clear ha hb
 have again : Hid (∀ W, Calls Tryz.prog 128 #[.string a] W (fun e w' => BoolIf (a.size ≤ 40) W w' e)) := HMa
 go_enter Tryz.func129, Tryz.ntmps129
 go_wp2_with fail
 refine (HMa.out _).mono ?_
 rintro e w1 ⟨b1, rfl, h1, O1⟩
 have HO1 := Lib.hid O1
 clear O1
 cases b1 with
 | false =>
  clear h1
  go_wp2_with fail
  refine (HMa.out _).mono ?_
  rintro e w2 ⟨b2, rfl, -, O2⟩
  have HO2 := Lib.hid (HO1.out.same O2)
  clear O2
  cases b2 with
  | true =>
   go_wp2_with fail
   go_ret
   exact SomeBool.mk _ rfl HO2.out
  | false =>
   go_wp2_with fail
   refine (HMb.out _).mono ?_
   rintro e w3 ⟨b3, rfl, -, O3⟩
   have HO3 := Lib.hid (HO2.out.same O3)
   clear O3
   go_wp2_with fail
   go_ret
   exact SomeBool.mk _ rfl HO3.out
 | true =>
  have ha40 := h1 rfl
  clear h1
  go_wp2_with fail
  refine (HMb.out _).mono ?_
  rintro e w2 ⟨b2, rfl, h2, O2⟩
  have HO2 := Lib.hid (HO1.out.same O2)
  clear O2
  cases b2 with
  | false =>
   clear h2
   go_wp2_with fail
   refine (HMa.out _).mono ?_
   rintro e w3 ⟨b3, rfl, -, O3⟩
   have HO3 := Lib.hid (HO2.out.same O3)
   clear O3
   cases b3 with
   | true =>
    go_wp2_with fail
    go_ret
    exact SomeBool.mk _ rfl HO3.out
   | false =>
    go_wp2_with fail
    refine (HMb.out _).mono ?_
    rintro e w4 ⟨b4, rfl, -, O4⟩
    have HO4 := Lib.hid (HO3.out.same O4)
    clear O4
    go_wp2_with fail
    go_ret
    exact SomeBool.mk _ rfl HO4.out
  | true =>
   have hb40 := h2 rfl
   clear h2 again HMa HMb
   have HCa := Lib.hid (Cut_some (w := w2) a ha40 46)
   go_wp2_with fail
   refine HCa.out.mono ?_
   rintro e w3 ⟨va, rfl, hTa, O3⟩
   have HCb := Lib.hid (Cut_some (w := w3) b hb40 46)
   obtain ⟨la, hRa, hla⟩ := hTa.row
   have HO3 := Lib.hid (HO2.out.same O3)
   obtain ⟨aa, ca, rfl, -, -⟩ := hRa.shape
   obtain ⟨na, hna⟩ : ∃ n, la.length = n := ⟨_, rfl⟩
   rw [hna] at hRa hla ⊢
   have HNa := Lib.hid hna
   clear hTa O3 hna HCa
   go_wp2_with fail
   refine HCb.out.mono ?_
   rintro e w4 ⟨vb, rfl, hTb, O4⟩
   obtain ⟨lb, hRb, hlb⟩ := hTb.row
   have HO4 := Lib.hid (HO3.out.same O4)
   obtain ⟨ab, cb, rfl, -, -⟩ := hRb.shape
   obtain ⟨nb, hnb⟩ : ∃ n, lb.length = n := ⟨_, rfl⟩
   rw [hnb] at hRb hlb ⊢
   have HAa : Hid (∀ W (i : Nat), i ≤ 1000000000 → Only (fun _ => False) w4 W → Calls Tryz.prog 148 #[.slice aa na ca, .int .i64 (i : Int)] W (fun e w' => ∃ t, e = .returned (.string t) ∧ okS t ∧ Only (fun _ => False) W w')) := fun W i hi hW => at_some (hRa.keep StrC.keep (Kp.of0 (O4.same hW))) i hi
   have HAb : Hid (∀ W (i : Nat), i ≤ 1000000000 → Only (fun _ => False) w4 W → Calls Tryz.prog 148 #[.slice ab nb cb, .int .i64 (i : Int)] W (fun e w' => ∃ t, e = .returned (.string t) ∧ okS t ∧ Only (fun _ => False) W w')) := fun W i hi hW => at_some (hRb.keep StrC.keep (Kp.of0 hW)) i hi
   obtain ⟨m, hm⟩ : ∃ m, max na nb = m := ⟨_, rfl⟩
   have hm1 : m ≤ 1000000000 := by omega
   have HM := Lib.hid hm
   have HOC : Hid (Only (fun _ => False) w4 w4) := Only.refl _ _
   clear hTb O4 hnb HCb hRa hRb hm hla hlb
   go_wp2_with fail
   go_loopw [7] (fun vi wri => LessRel w4 m vi wri) (fun v _ => m - (RowKit.intOf v).toNat)
   case atStart => exact ⟨HOC, 0, rfl, Nat.zero_le _⟩
   case round =>
    obtain ⟨wri, rfl⟩ : ∃ W, W = wr := ⟨_, rfl⟩
    clear HOC
    obtain ⟨HOi, i, rfl, hi⟩ := hrel
    have ewi : IntKind.i64.wrap ((i : Int) + 1) = (i : Int) + 1 := by rw [IntKind.wrap_i64]; omega
    by_cases ci : i < m
    ·have hor : i < na ∨ i < nb := by have := HM.out; omega
     have fin : True := trivial
     by_cases ca1 : i < na
     ·clear hor
      go_wp2_with fail
      refine (HAa.out _ i (by omega) HOi.out).mono ?_
      rintro e w5 ⟨t1, rfl, k1, O5⟩
      have HO5 := Lib.hid (HOi.out.same O5)
      clear O5
      go_wp2_with fail
      refine (HAb.out _ i (by omega) HO5.out).mono ?_
      rintro e w6 ⟨t2, rfl, k2, O6⟩
      have HO6 := Lib.hid (HO5.out.same O6)
      have HB1 := Lib.hid (before_some (w := w6) t1 t2 k1 k2)
      clear O6 k1 k2
      go_wp2_with fail
      refine HB1.out.mono ?_
      rintro e w7 ⟨b7, rfl, O7⟩
      have HO7 := Lib.hid (HO6.out.same O7)
      clear O7 HB1
      cases b7 with
      | true =>
       go_wp2_with fail
       go_ret
       exact SomeBool.mk _ rfl (HO4.out.same HO7.out)
      | false =>
       go_wp2_with fail
       refine (HAb.out _ i (by omega) HO7.out).mono ?_
       rintro e w8 ⟨t3, rfl, k3, O8⟩
       have HO8 := Lib.hid (HO7.out.same O8)
       clear O8
       go_wp2_with fail
       refine (HAa.out _ i (by omega) HO8.out).mono ?_
       rintro e w9 ⟨t4, rfl, k4, O9⟩
       have HO9 := Lib.hid (HO8.out.same O9)
       have HB2 := Lib.hid (before_some (w := w9) t3 t4 k3 k4)
       clear O9 k3 k4
       go_wp2_with fail
       refine HB2.out.mono ?_
       rintro e w10 ⟨b10, rfl, O10⟩
       have HO10 := Lib.hid (HO9.out.same O10)
       clear O10 HB2
       cases b10 with
       | true =>
        go_wp2_with fail
        go_ret
        exact SomeBool.mk _ rfl (HO4.out.same HO10.out)
       | false =>
        go_wp2_with fail
        go_roundw
        case rel => exact ⟨HO10, i + 1, by first | rfl | go_num, by omega⟩
        case measure => simp [RowKit.intOf] <;> omega
     ·have cb1 : i < nb := by omega
      clear hor
      go_wp2_with fail
      refine (HAa.out _ i (by omega) HOi.out).mono ?_
      rintro e w5 ⟨t1, rfl, k1, O5⟩
      have HO5 := Lib.hid (HOi.out.same O5)
      clear O5
      go_wp2_with fail
      refine (HAb.out _ i (by omega) HO5.out).mono ?_
      rintro e w6 ⟨t2, rfl, k2, O6⟩
      have HO6 := Lib.hid (HO5.out.same O6)
      have HB1 := Lib.hid (before_some (w := w6) t1 t2 k1 k2)
      clear O6 k1 k2
      go_wp2_with fail
      refine HB1.out.mono ?_
      rintro e w7 ⟨b7, rfl, O7⟩
      have HO7 := Lib.hid (HO6.out.same O7)
      clear O7 HB1
      cases b7 with
      | true =>
       go_wp2_with fail
       go_ret
       exact SomeBool.mk _ rfl (HO4.out.same HO7.out)
      | false =>
       go_wp2_with fail
       refine (HAb.out _ i (by omega) HO7.out).mono ?_
       rintro e w8 ⟨t3, rfl, k3, O8⟩
       have HO8 := Lib.hid (HO7.out.same O8)
       clear O8
       go_wp2_with fail
       refine (HAa.out _ i (by omega) HO8.out).mono ?_
       rintro e w9 ⟨t4, rfl, k4, O9⟩
       have HO9 := Lib.hid (HO8.out.same O9)
       have HB2 := Lib.hid (before_some (w := w9) t3 t4 k3 k4)
       clear O9 k3 k4
       go_wp2_with fail
       refine HB2.out.mono ?_
       rintro e w10 ⟨b10, rfl, O10⟩
       have HO10 := Lib.hid (HO9.out.same O10)
       clear O10 HB2
       cases b10 with
       | true =>
        go_wp2_with fail
        go_ret
        exact SomeBool.mk _ rfl (HO4.out.same HO10.out)
       | false =>
        go_wp2_with fail
        go_roundw
        case rel => exact ⟨HO10, i + 1, by first | rfl | go_num, by omega⟩
        case measure => simp [RowKit.intOf] <;> omega
    ·have c1 : ¬ i < na := by have := HM.out; omega
     have c2 : ¬ i < nb := by have := HM.out; omega
     go_wp2_with fail
     go_ret
     exact SomeBool.mk _ rfl (HO4.out.same HOi.out)
set_option maxRecDepth 100000 in
theorem bound_some (s : Str) (hs : okS s) : Calls Tryz.prog 144 #[.string s] w (fun e w' => SomeBool w w' e) := by
 have HM := Lib.hid (May1_some (w := w) s hs)
 obtain ⟨es, hes⟩ : ∃ e, s.toList.isEmpty = e := ⟨_, rfl⟩
 clear hs
 go_enter Tryz.func144, Tryz.ntmps144
 cases es with
 | true =>
  go_wp2_with fail
  go_ret
  exact SomeBool.mk _ rfl (Only.refl _ _)
 | false =>
  go_wp2_with fail
  refine HM.out.mono ?_
  rintro e w1 ⟨b1, rfl, -, O1⟩
  have HO1 := Lib.hid O1
  clear O1 HM
  go_wp2_with fail
  go_ret
  exact SomeBool.mk _ rfl HO1.out
end
section
variable {w w' : World} {B : Nat}
theorem span_box {W0 : World} {lo hi : Str} (h : W0 = w.alloc (.cells #[.string lo, .string hi] 86)) : ∀ W, Only (fun _ => False) W0 W → W.cell? ⟨w.heap.size, 0, none⟩ = some (.string lo) ∧ W.cell? ⟨w.heap.size, 1, none⟩ = some (.string hi) := fun W ho => by
 have b0 : W0.heap[w.heap.size]? = some (.cells #[.string lo, .string hi] 86) := by rw [h]; exact heap_alloc_new w _
 have b1 := only_block b0 ho (fun f => f)
 exact ⟨by rw [cell_block b1]; rfl, by rw [cell_block b1]; rfl⟩
set_option maxRecDepth 100000 in
set_option maxHeartbeats 2000000 in
theorem MayS_some (lo hi : Str) (hl : okS lo) (hh : okS hi) : Calls Tryz.prog 127 #[.agg #[.string lo, .string hi]] w (fun e w' => SomeBool w w' e) := by
 obtain ⟨W0, hW0⟩ : ∃ W0, W0 = w.alloc (.cells #[.string lo, .string hi] 86) := ⟨_, rfl⟩
 have HOB : Hid (Only (fun _ => False) w W0) := by rw [hW0]; exact (Only.refl _ _).alloc _
 have HBox := Lib.hid (span_box hW0)
 have HB1 : Hid (∀ W, Calls Tryz.prog 144 #[.string lo] W (fun e w' => SomeBool W w' e)) := fun W => bound_some lo hl
 have HB2 : Hid (∀ W, Calls Tryz.prog 144 #[.string hi] W (fun e w' => SomeBool W w' e)) := fun W => bound_some hi hh
 have HLs : Hid (∀ W, Calls Tryz.prog 129 #[.string hi, .string lo] W (fun e w' => SomeBool W w' e)) := fun W => Less_some hi lo hh hl
 obtain ⟨el, hel⟩ : ∃ e, lo.toList.isEmpty = e := ⟨_, rfl⟩
 obtain ⟨eh, heh⟩ : ∃ e, hi.toList.isEmpty = e := ⟨_, rfl⟩
 clear hl hh
 go_enter Tryz.func127, Tryz.ntmps127
 go_wp2_with fail
 rw [← hW0]
 clear hW0
 refine (HB1.out _).mono ?_
 rintro e w1 ⟨b1, rfl, O1⟩
 have HO1 := Lib.hid O1
 clear O1
 obtain ⟨k0, k1⟩ := HBox.out w1 HO1.out
 cases b1 with
 | false =>
  go_wp2_with fail
  go_ret
  exact SomeBool.mk _ rfl (HOB.out.same HO1.out)
 | true =>
  go_wp2_with fail
  refine (HB2.out _).mono ?_
  rintro e w2 ⟨b2, rfl, O2⟩
  have HO2 := Lib.hid (HO1.out.same O2)
  clear O2 k0 k1
  obtain ⟨k0, k1⟩ := HBox.out w2 HO2.out
  cases b2 with
  | false =>
   go_wp2_with fail
   go_ret
   exact SomeBool.mk _ rfl (HOB.out.same HO2.out)
  | true =>
   cases el with
   | true =>
    go_wp2_with fail
    go_ret
    exact SomeBool.mk _ rfl (HOB.out.same HO2.out)
   | false =>
    cases eh with
    | true =>
     go_wp2_with fail
     go_ret
     exact SomeBool.mk _ rfl (HOB.out.same HO2.out)
    | false =>
     go_wp2_with fail
     refine (HLs.out _).mono ?_
     rintro e w3 ⟨b3, rfl, O3⟩
     have HO3 := Lib.hid (HO2.out.same O3)
     clear O3 k0 k1
     cases b3 with
     | false =>
      go_wp2_with fail
      go_ret
      exact SomeBool.mk _ rfl (HOB.out.same HO3.out)
     | true =>
      go_wp2_with fail
      go_ret
      exact SomeBool.mk _ rfl (HOB.out.same HO3.out)
set_option maxRecDepth 100000 in
set_option maxHeartbeats 2000000 in
theorem HasS_some (lo hi v : Str) (hl : okS lo) (hh : okS hi) (hv : okS v) : Calls Tryz.prog 110 #[.agg #[.string lo, .string hi], .string v] w (fun e w' => SomeBool w w' e) := by
 obtain ⟨W0, hW0⟩ : ∃ W0, W0 = w.alloc (.cells #[.string lo, .string hi] 86) := ⟨_, rfl⟩
 have HOB : Hid (Only (fun _ => False) w W0) := by rw [hW0]; exact (Only.refl _ _).alloc _
 have HBox := Lib.hid (span_box hW0)
 have HMs : Hid (∀ W, Calls Tryz.prog 127 #[.agg #[.string lo, .string hi]] W (fun e w' => SomeBool W w' e)) := fun W => MayS_some lo hi hl hh
 have HMv : Hid (∀ W, Calls Tryz.prog 128 #[.string v] W (fun e w' => SomeBool W w' e)) := fun W => (May1_some v hv).mono fun e w' ⟨b, he, _, ho⟩ => ⟨b, he, ho⟩
 have HL1 : Hid (∀ W, Calls Tryz.prog 129 #[.string v, .string lo] W (fun e w' => SomeBool W w' e)) := fun W => Less_some v lo hv hl
 have HL2 : Hid (∀ W, Calls Tryz.prog 129 #[.string hi, .string v] W (fun e w' => SomeBool W w' e)) := fun W => Less_some hi v hh hv
 obtain ⟨el, hel⟩ : ∃ e, lo.toList.isEmpty = e := ⟨_, rfl⟩
 obtain ⟨eh, heh⟩ : ∃ e, hi.toList.isEmpty = e := ⟨_, rfl⟩
 clear hl hh hv
 have k0 := (HBox.out W0 (Only.refl _ _)).1
 have k1 := (HBox.out W0 (Only.refl _ _)).2
 rw [hW0] at k0 k1
 go_enter Tryz.func110, Tryz.ntmps110
 go_wp2_with fail
 rw [← hW0]
 clear hW0 k0 k1
 refine (HMs.out _).mono ?_
 rintro e w1 ⟨b1, rfl, O1⟩
 have HO1 := Lib.hid O1
 clear O1
 cases b1 with
 | false =>
  go_wp2_with fail
  go_ret
  exact SomeBool.mk _ rfl (HOB.out.same HO1.out)
 | true =>
  go_wp2_with fail
  refine (HMv.out _).mono ?_
  rintro e w2 ⟨b2, rfl, O2⟩
  have HO2 := Lib.hid (HO1.out.same O2)
  clear O2
  cases b2 with
  | false =>
   go_wp2_with fail
   go_ret
   exact SomeBool.mk _ rfl (HOB.out.same HO2.out)
  | true =>
   obtain ⟨k0, k1⟩ := HBox.out w2 HO2.out
   have second : Hid (∀ w3, Only (fun _ => False) W0 w3 → True) := fun _ _ => trivial
   clear second
   cases el with
   | true =>
    cases eh with
    | true =>
     go_wp2_with fail
     go_ret
     exact SomeBool.mk _ rfl (HOB.out.same HO2.out)
    | false =>
     go_wp2_with fail
     refine (HL2.out _).mono ?_
     rintro e w3 ⟨b3, rfl, O3⟩
     have HO3 := Lib.hid (HO2.out.same O3)
     clear O3 k0 k1
     go_wp2_with fail
     go_ret
     exact SomeBool.mk _ rfl (HOB.out.same HO3.out)
   | false =>
    go_wp2_with fail
    refine (HL1.out _).mono ?_
    rintro e w3 ⟨b3, rfl, O3⟩
    have HO3 := Lib.hid (HO2.out.same O3)
    clear O3 k0 k1
    obtain ⟨k0, k1⟩ := HBox.out w3 HO3.out
    cases b3 with
    | true =>
     go_wp2_with fail
     go_ret
     exact SomeBool.mk _ rfl (HOB.out.same HO3.out)
    | false =>
     cases eh with
     | true =>
      go_wp2_with fail
      go_ret
      exact SomeBool.mk _ rfl (HOB.out.same HO3.out)
     | false =>
      go_wp2_with fail
      refine (HL2.out _).mono ?_
      rintro e w4 ⟨b4, rfl, O4⟩
      have HO4 := Lib.hid (HO3.out.same O4)
      clear O4 k0 k1
      go_wp2_with fail
      go_ret
      exact SomeBool.mk _ rfl (HOB.out.same HO4.out)
set_option maxRecDepth 100000 in
set_option maxHeartbeats 2000000 in
theorem HasSs_some {vl : Value} {l : List SpanD} (h : RowT 2 SpanC B w vl l) (v : Str) (hv : okS v) : Calls Tryz.prog 91 #[vl, .string v] w (fun e w' => SomeBool w w' e) := by
 obtain ⟨ao, cap, rfl, g1, g2⟩ := h.shape
 obtain ⟨n, hn⟩ : ∃ n, l.length = n := ⟨_, rfl⟩
 rw [hn] at h g1 ⊢
 have HN := Lib.hid hn
 have HR : Hid (∀ W, Only (fun _ => False) w W → RowT 2 SpanC B W (.slice ao n cap) l) := fun W ho => h.keep SpanC.keep (Kp.of0 ho)
 have HV := Lib.hid hv
 clear hn h hv
 go_enter Tryz.func91, Tryz.ntmps91
 go_wp2_with fail
 go_loopw [8] (fun vi wri => Hid (Only (fun _ => False) w wri) ∧ ∃ i : Nat, vi = .int .i64 i ∧ i ≤ n) (fun v _ => n - (RowKit.intOf v).toNat)
 case atStart => exact ⟨show Hid _ from Only.refl _ _, 0, rfl, Nat.zero_le _⟩
 case round =>
  obtain ⟨wri, rfl⟩ : ∃ W, W = wr := ⟨_, rfl⟩
  obtain ⟨HOi, i, rfl, hi⟩ := hrel
  by_cases ci : i < n
  ·have ewi : IntKind.i64.wrap ((i : Int) + 1) = (i : Int) + 1 := by rw [IntKind.wrap_i64]; omega
   obtain ⟨y, hx⟩ : ∃ y, l[i]? = some y := ⟨_, List.getElem?_eq_getElem (by rw [HN.out]; exact ci)⟩
   obtain ⟨b, off, he, k1, k2, hE⟩ := SpanC_at (HR.out wri HOi.out) hx
   subst he
   have HRr := Lib.hid (hE wri (Only.refl _ _)).1
   have HH := Lib.hid (HasS_some (w := wri) y.lo y.hi v k1 k2 HV.out)
   clear hE hx k1 k2
   go_wp2_with (refine wpList_load_mid rfl 86 (.tmp 13) rfl b (off + i * 2) rfl _ _ HRr.out Tryz.underlying86 rfl (by kernel_rfl) ?_)
   refine HH.out.mono ?_
   rintro e w2 ⟨b2, rfl, O2⟩
   have HO2 := Lib.hid (HOi.out.same O2)
   clear O2 HH HRr
   cases b2 with
   | true =>
    go_wp2_with fail
    go_ret
    exact SomeBool.mk _ rfl HO2.out
   | false =>
    go_wp2_with fail
    go_roundw
    case rel => exact ⟨HO2, i + 1, by first | rfl | go_num, by omega⟩
    case measure => simp [RowKit.intOf] <;> omega
  ·obtain rfl : n = i := by omega
   go_wp2_with fail
   go_ret
   exact SomeBool.mk _ rfl HOi.out
end
end Go.Proofs.YtbapkcnfacklaaaGreat

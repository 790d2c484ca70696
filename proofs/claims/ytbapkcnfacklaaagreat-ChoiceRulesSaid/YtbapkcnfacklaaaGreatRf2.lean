/- The document's texts: Digits, Name, Value (a bool, whichever). -/
import Derived.Test.YtbapkcnfacklaaaGreatRf1
import Derived.Test.YtbapkcnfacklaaaGreatNd3
set_option linter.unusedVariables false
namespace Go.Proofs.YtbapkcnfacklaaaGreat
open Go.RowKit
section
variable {w w' : World} {B : Nat}
def SomeBool (w w' : World) (e : Ending) : Prop := ∃ b, e = .returned (.bool b) ∧ Only (fun _ => False) w w'
def IdxRel (w : World) (n : Nat) (v : Value) (wr : World) : Prop := Hid (Only (fun _ => False) w wr) ∧ ∃ i : Nat, v = .int .i64 i ∧ i ≤ n
theorem SomeBool.mk (b : Bool) {w w' : World} {e : Ending} (he : e = .returned (.bool b)) (ho : Only (fun _ => False) w w') : SomeBool w w' e := ⟨b, he, ho⟩
set_option maxRecDepth 100000 in
theorem Digits_some (s : Str) (hs : okS s) : Calls Tryz.prog 130 #[.string s] w (fun e w' => SomeBool w w' e) := by
 have hs2 : s.size ≤ 9223372036854775807 := by unfold okS maxLen at hs; omega
 clear hs
 go_enter Tryz.func130, Tryz.ntmps130
 go_wp2_with fail
 go_loopw [3] (fun vi wr => IdxRel w s.size vi wr) (fun v _ => s.size - (RowKit.intOf v).toNat)
 case atStart => exact ⟨show Hid _ from Only.refl _ _, 0, rfl, Nat.zero_le _⟩
 case round =>
  obtain ⟨HO, i, rfl, hi⟩ := hrel
  by_cases ci : i < s.size
  ·have ewi : IntKind.i64.wrap ((i : Int) + 1) = (i : Int) + 1 := by rw [IntKind.wrap_i64]; omega
   go_wp2_with fail
   all_goals first
    | (go_ret; exact SomeBool.mk _ rfl HO.out)
    | exact ⟨⟨HO, i + 1, by first | rfl | go_num, by omega⟩, by simp [RowKit.intOf] <;> omega⟩
  ·obtain rfl : s.size = i := by omega
   go_wp2_with fail
   go_ret
   exact SomeBool.mk _ rfl HO.out
set_option maxRecDepth 100000 in
theorem Name_some (s : Str) (hs : okS s) : Calls Tryz.prog 111 #[.string s] w (fun e w' => SomeBool w w' e) := by
 have hs2 : s.size ≤ 9223372036854775807 := by unfold okS maxLen at hs; omega
 clear hs
 go_enter Tryz.func111, Tryz.ntmps111
 by_cases h0 : s.size = 0
 ·have he : s = ⟨#[]⟩ := by
   have : s.data.size = 0 := h0
   cases s with | mk d => simp at this; rw [this]
  subst he
  go_wp2_with fail
  go_ret
  exact SomeBool.mk _ rfl (Only.refl _ _)
 ·have hne : s.toList ≠ [] := fun h => h0 (by
   have h1 : s.data.toList = [] := by rw [← ByteArray.toList_eq]; exact h
   have : s.data.size = 0 := by rw [← Array.length_toList, h1]; rfl
   exact this)
  have hpos : 0 < s.size := by omega
  go_wp2_with fail
  all_goals (try (go_ret; exact SomeBool.mk _ rfl (Only.refl _ _)))
  rename_i q1 q2 q3 q4 q5
  clear q1 q2 q3 hne h0
  go_loopw [3] (fun vi wr => IdxRel w s.size vi wr) (fun v _ => s.size - (RowKit.intOf v).toNat)
  case atStart => exact ⟨show Hid _ from Only.refl _ _, 0, rfl, Nat.zero_le _⟩
  case round =>
   obtain ⟨HO, i, rfl, hi⟩ := hrel
   by_cases ci : i < s.size
   ·have ewi : IntKind.i64.wrap ((i : Int) + 1) = (i : Int) + 1 := by rw [IntKind.wrap_i64]; omega
    go_wp2_with fail
    all_goals first
     | (go_ret; exact SomeBool.mk _ rfl HO.out)
     | exact ⟨⟨HO, i + 1, by first | rfl | go_num, by omega⟩, by simp [RowKit.intOf] <;> omega⟩
   ·obtain rfl : s.size = i := by omega
    go_wp2_with fail
    go_ret
    exact SomeBool.mk _ rfl HO.out
set_option maxRecDepth 100000 in
theorem Value_some (s : Str) (hs : okS s) : Calls Tryz.prog 112 #[.string s] w (fun e w' => SomeBool w w' e) := by
 have HN := Lib.hid (Name_some (w := w) s hs)
 have HD : Hid (∀ W, Calls Tryz.prog 130 #[.string s] W (fun e w' => SomeBool W w' e)) := fun W => Digits_some s hs
 go_enter Tryz.func112, Tryz.ntmps112
 go_wp2_with fail
 refine HN.out.mono ?_
 rintro e w1 ⟨b, rfl, O1⟩
 have HO1 := Lib.hid O1
 clear O1
 cases b with
 | true =>
  go_wp2_with fail
  go_ret
  exact SomeBool.mk _ rfl HO1.out
 | false =>
  go_wp2_with fail
  refine (HD.out w1).mono ?_
  rintro e w2 ⟨b, rfl, O2⟩
  have HO2 := Lib.hid (HO1.out.same O2)
  clear O2
  cases b with
  | true =>
   go_wp2_with fail
   all_goals (go_ret; exact SomeBool.mk _ rfl HO2.out)
  | false =>
   go_wp2_with fail
   all_goals (go_ret; exact SomeBool.mk _ rfl HO2.out)
end
end Go.Proofs.YtbapkcnfacklaaaGreat

/- ref01.Great at a row of texts: a bool. -/
import Derived.Test.YtmlfchjompfmaaaGreatDoorStrA
import Derived.Deep.LoopGhost
set_option linter.unusedVariables false
namespace Go.Proofs.YtmlfchjompfmaaaGreatDoor
open Go.RowKit
section
variable {w w' : World} {B : Nat}
def GreatEnd (w w' : World) (e : Ending) : Prop := ∃ b, e = .returned (.bool b) ∧ Only (fun _ => False) w w'
theorem GreatEnd.mk (b : Bool) {w w' : World} {e : Ending} (he : e = .returned (.bool b)) (ho : Only (fun _ => False) w w') : GreatEnd w w' e := ⟨b, he, ho⟩
set_option maxRecDepth 100000 in
set_option maxHeartbeats 2000000 in
theorem Great1_some {v : Value} {l : List Str} (h : RowT 1 StrC B w v l) : Calls Tryz.prog 5 #[v] w (fun e w' => GreatEnd w w' e) := by
 have HRow := Lib.hid h
 obtain ⟨ao, cap, rfl, k1, k2⟩ := h.shape
 obtain ⟨n, hn⟩ : ∃ n, l.length = n := ⟨_, rfl⟩
 have HN := Lib.hid hn
 rw [hn] at HRow k1 ⊢
 clear h hn
 go_enter Tryz.func5, Tryz.ntmps5
 go_wp2_with fail
 go_loopw [3, 7] (fun ci vi wr => Hid (w = wr) ∧ ∃ (i : Nat) (k : Int), ci = .int .i64 k ∧ vi = .int .i64 i ∧ i ≤ n ∧ 0 ≤ k ∧ k ≤ 9000) (fun _ v _ => n - (RowKit.intOf v).toNat)
 case atStart => exact ⟨rfl, 0, 0, rfl, rfl, Nat.zero_le _, by omega, by omega⟩
 case round =>
  obtain ⟨hw, i, k, rfl, rfl, hi, hk0, hk9⟩ := hrel
  obtain rfl := hw.out
  by_cases ci : i < n
  ·have ewi : IntKind.i64.wrap ((i : Int) + 1) = (i : Int) + 1 := by rw [IntKind.wrap_i64]; omega
   obtain ⟨y, hx⟩ : ∃ y, l[i]? = some y := ⟨_, List.getElem?_eq_getElem (by rw [HN.out]; exact ci)⟩
   obtain ⟨b, off, he, hok, hE⟩ := StrC_at HRow.out hx
   subst he
   have hr := (hE w (Only.refl _ _)).1
   have g0 := hr 0 _ rfl
   rw [Nat.add_zero, Nat.mul_one] at g0
   obtain ⟨m, hm⟩ : ∃ m : Int, min (y.size : Int) 9000 = m := ⟨_, rfl⟩
   have hm0 : 0 ≤ m := by omega
   have hm9 : m ≤ 9000 := by omega
   have ew1 : IntKind.i64.wrap (1 + m) = 1 + m := by rw [IntKind.wrap_i64]; omega
   have ew2 : IntKind.i64.wrap (k + (1 + m)) = k + (1 + m) := by rw [IntKind.wrap_i64]; omega
   clear hr hE hx hok
   by_cases c9 : 9000 < k + (1 + m)
   ·go_wp2_with fail
    go_ret
    exact GreatEnd.mk true rfl (Only.refl _ _)
   ·have c9' : k + (1 + m) ≤ 9000 := by omega
    go_wp2_with fail
    go_roundw
    case rel => exact ⟨by first | exact rfl | exact trivial, i + 1, k + (1 + m), by first | rfl | go_num, by first | rfl | go_num, by omega, by omega, by omega⟩
    case measure => simp [RowKit.intOf] <;> omega
  ·go_wp2_with fail
   go_ret
   exact GreatEnd.mk false rfl (Only.refl _ _)
end
end Go.Proofs.YtmlfchjompfmaaaGreatDoor

/- The example of the law of locks. -/
import Derived.Test.YtmlfchjompfmaaaDoorLkWE
set_option linter.unusedVariables false
namespace Go.Proofs.YtmlfchjompfmaaaDoor
open Go.RowKit
open Lk (textG graphB parseB)
section
variable {w w' : World}
def exG : List NodeD := [⟨⟨#[97]⟩, ⟨#[49]⟩, [], []⟩]
theorem ex_toG : toG exG = [⟨[97], [49], [], []⟩] := by
 have e1 : (⟨#[97]⟩ : ByteArray).toList = [97] := by rw [toList_data]
 have e2 : (⟨#[49]⟩ : ByteArray).toList = [49] := by rw [toList_data]
 simp [exG, toG, NodeD.toB, e1, e2]
theorem ex_parse : parseB (⟨#[108, 111, 99, 107, 32, 49, 10, 110, 111, 100, 101, 32, 97, 32, 49, 10]⟩ : ByteArray).toList = .ok (toG exG) := by
 have h := Lk.parse_text (G := [⟨[97], [49], [], []⟩]) (by decide)
 rw [ex_toG, toList_data]
 exact h
set_option maxRecDepth 100000 in
set_option maxHeartbeats 4000000 in
theorem fixed_x (hM : LaidM w) : Calls Tryd.prog 15 #[] w (fun e w' => e = .returned (.bool true) ∧ Only (fun _ => False) w w') := by
 have HP := Lib.hid (Parse_x (⟨#[108, 111, 99, 107, 32, 49, 10, 110, 111, 100, 101, 32, 97, 32, 49, 10]⟩ : ByteArray) (by decide) hM)
 clear hM
 go_enter Tryd.func15, Tryd.ntmps15
 go_wp2_with fail
 refine HP.out.mono ?_
 rintro e w2 ⟨gv, ln, er, rfl, O2, hm⟩
 rw [ex_parse] at hm
 obtain ⟨rfl, rfl, g2, hG, hr⟩ := hm
 obtain rfl := toG_inj hG
 obtain ⟨ao, cap, hv, k1, k2⟩ := hr.shape
 have hv' : gv = .slice ao 1 cap := hv
 subst hv'
 clear hv
 obtain ⟨b, off, le, ca, p1, d1, p2, d2, he, -, -, -, -, -, -, -, hE⟩ := NodC_at (i := 0) (x := ⟨⟨#[97]⟩, ⟨#[49]⟩, [], []⟩) hr rfl
 cases he
 have O3 : Only (fun _ => False) w2 ((w2.alloc (.cells #[.slice (some ⟨b, off, none⟩) 1 cap] 39)).alloc (.cells #[.int .i64 0, .int .i64 0] 44)) := ((Only.refl _ _).alloc _).alloc _
 have p0 := (hE _ O3).1 0 _ rfl
 have p1' := (hE _ O3).1 1 _ rfl
 simp only [Nat.zero_mul, Nat.add_zero] at p0 p1'
 have f1 : ((⟨#[97]⟩ : ByteArray).toList == (⟨#[97]⟩ : ByteArray).toList) = true := beq_self_eq_true _
 have f2 : ((⟨#[49]⟩ : ByteArray).toList == (⟨#[49]⟩ : ByteArray).toList) = true := beq_self_eq_true _
 have HO := Lib.hid (O2.same O3)
 clear hE O2 O3 hr hG k1 k2
 go_wp2_with fail
 go_ret
 exact ⟨rfl, HO.out⟩
end
end Go.Proofs.YtmlfchjompfmaaaDoor

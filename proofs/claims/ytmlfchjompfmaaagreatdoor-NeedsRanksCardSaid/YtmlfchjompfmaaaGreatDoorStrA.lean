/- Strings: rows of them, and of their bytes. -/
import Derived.Test.YtmlfchjompfmaaaGreatDoorRowB
import Derived.Test.YtmlfchjompfmaaaGreatDoorNd2
import Derived.Test.YtmlfchjompfmaaaGreatDoorStepA
import Derived.Deep.MidRow
import Derived.BigFrame
import Derived.Carry
set_option linter.unusedVariables false
namespace Go.Proofs.YtmlfchjompfmaaaGreatDoor
open Go.RowKit
section
variable {w w' : World} {B : Nat}
def strs9 (l : List Str) : List Value := l.map Value.string
theorem slStr9 : SlT Tryz.prog 28 9 1 16 := SlT.mk' (z := .string .empty) Tryz.underlying28 (by kernel_rfl) rfl (by decide)
theorem own_litS (w : World) : (w.alloc (.cells #[] 9)).ownsRow 0 9 1 (.slice (some ⟨w.heap.size, 0, none⟩) 0 0) 0 [] :=
 World.ownsRow_lit (base := 0) (e := 9) (size := 1) w #[] 0 (Nat.zero_le _) (by unfold maxLen; omega) (by simp)
theorem strs_read {v : Value} {l : List Str} {n : Nat} (hn : l.length = n) (h : w.ownsRow 0 9 1 v n (strs9 l)) (hk : ∀ s ∈ l, okS s) : RowT 1 StrC w.heap.size w v l := by
 subst hn
 refine RowT.of_own h fun i hi => ⟨[.string l[i]], rfl, fun j u hu => ?_, rfl, hk _ (List.getElem_mem hi)⟩
 obtain rfl : j = 0 := by
  have := (List.getElem?_eq_some_iff.1 hu).1
  simpa using this
 simp at hu
 subst hu
 simp [strs9, hi]
theorem okS_slice {s : Str} (hs : okS s) (i j : Nat) : okS (s.extract i j) := by
 unfold okS at hs ⊢
 rw [ByteArray.size_extract]
 omega
theorem size_zero {s : Str} (h : s.size = 0) : s = ⟨#[]⟩ := by
 have : s.data.size = 0 := h
 cases s with | mk d => simp at this; rw [this]
def IdxRel (w : World) (n : Nat) (v : Value) (wr : World) : Prop := Hid (Only (fun _ => False) w wr) ∧ ∃ i : Nat, v = .int .i64 i ∧ i ≤ n
end
end Go.Proofs.YtmlfchjompfmaaaGreatDoor

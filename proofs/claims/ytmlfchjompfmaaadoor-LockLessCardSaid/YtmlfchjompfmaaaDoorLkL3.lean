/- LockLess: the first lines of a lock, the first one among them, are a lock, too. -/
import Derived.Test.YtmlfchjompfmaaaDoorLkL2
import Derived.Test.YtmlfchjompfmaaaDoorLkPA
set_option linter.unusedVariables false
namespace Go.Proofs.YtmlfchjompfmaaaDoor
open Go.RowKit
open Lk (textG graphB parseB headL bodyG nls begL nodesOf isN joinL)
section
variable {w w' : World}
theorem bounds_u16' {a : Int} (h : 0 ≤ a ∧ a ≤ 65535) : ∃ t : Nat, a = t ∧ t ≤ 65535 := ⟨a.toNat, by omega, by omega⟩
structure LinesOf (t : Str) (L : List (List UInt8)) : Prop where
 txt : t.toList = joinL L
 ne : ∀ l ∈ L, ∀ b ∈ l, b ≠ 10
 pos : 0 < L.length
 size : t.size ≤ 700000
theorem LinesOf.len {t : Str} {L : List (List UInt8)} (h : LinesOf t L) : nls t.toList = L.length := by rw [h.txt]; exact Lk.nls_join h.ne
theorem LinesOf.beg {t : Str} {L : List (List UInt8)} (h : LinesOf t L) (n : Nat) : begL L n ≤ t.size := by
 have := Lk.beg_le L n
 rw [← h.txt, size_toList] at this; exact this
theorem LinesOf.next {t : Str} {L : List (List UInt8)} (h : LinesOf t L) {n : Nat} {l : List UInt8} (hl : L[n]? = some l) : begL L n + l.length + 1 ≤ t.size := by
 rw [← Lk.beg_next hl]; exact h.beg _
theorem LinesOf.byte {t : Str} {L : List (List UInt8)} (h : LinesOf t L) {n j : Nat} {l : List UInt8} (hl : L[n]? = some l) (hj : j < l.length) (hs : begL L n + j < t.size) : ¬ (t[begL L n + j]).toNat = 10 := by
 have h1 := Lk.beg_byte hl (List.getElem?_eq_getElem hj)
 rw [← h.txt, toList_at hs] at h1
 rw [Option.some.inj h1]
 exact Lk.ten (h.ne l (List.mem_of_getElem? hl) _ (List.getElem_mem hj))
theorem LinesOf.last {t : Str} {L : List (List UInt8)} (h : LinesOf t L) {n : Nat} {l : List UInt8} (hl : L[n]? = some l) (hs : begL L n + l.length < t.size) : t[begL L n + l.length].toNat = 10 := by
 have h1 := Lk.beg_end hl
 rw [← h.txt, toList_at hs] at h1
 rw [Option.some.inj h1]; rfl
theorem LinesOf.isN {t : Str} {L : List (List UInt8)} (h : LinesOf t L) {n : Nat} {l : List UInt8} (hl : L[n]? = some l) (hs : begL L n < t.size) : Lk.isN l = decide (t[begL L n].toNat = 110) := by
 refine Lk.isN_at hl ?_
 rw [← h.txt, toList_at hs]
theorem LinesOf.of {g : List NodeD} {t : Str} (hs : SmallG g) (ht : t.toList = textG (toG g)) (hg : graphB (toG g) = true) : LinesOf t (headL :: bodyG (toG g)) :=
 ⟨ht, Lk.line_ne hg, by simp, text_small hs ht⟩
end
end Go.Proofs.YtmlfchjompfmaaaDoor

/- Package version: parts. -/
import Derived.Test.YtmlfchjompfmaaaDoorWv4
import Derived.Test.YtmlfchjompfmaaaDoorStepA
import Derived.Maps.AppendAt
set_option linter.unusedVariables false
namespace Go.Proofs.YtmlfchjompfmaaaDoor
open Go.RowKit
open Vn (partB rankOf numOf wordOf)
attribute [local go_sem] Oper.semAt_some
section
variable {w w' : World} {B : Nat}
theorem SplitSeq_x (s sep : Str) : Calls Tryd.prog 70 #[.string s, .string sep] w (fun e w' => e = .returned (.func (.func 114) #[] #[.pointer (some ⟨w.heap.size + 1, 0, none⟩), .pointer (some ⟨w.heap.size, 0, none⟩), .pointer (some ⟨w.heap.size + 2, 0, none⟩)]) ∧
  w' = ((w.alloc (.cells #[.string s] 9)).alloc (.cells #[.string sep] 9)).alloc (.cells #[.int .i64 0] 3)) := by
 go_enter Tryd.func70, Tryd.ntmps70
 go_wp2
 go_ret
 exact ⟨by simp, rfl⟩
def flatP (l : List (List UInt8)) : List Value := l.flatMap fun a => [.int .i64 (rankOf a : Int), .int .i64 (numOf a : Int), .string (bsS (wordOf a))]
theorem flatP_snoc (l : List (List UInt8)) (a : List UInt8) : flatP (l ++ [a]) = flatP l ++ [.int .i64 (rankOf a : Int), .int .i64 (numOf a : Int), .string (bsS (wordOf a))] := by simp [flatP]
theorem flatP_at : ∀ (l : List (List UInt8)) (i : Nat) (a : List UInt8), l[i]? = some a → ∀ j u, [Value.int .i64 (rankOf a : Int), .int .i64 (numOf a : Int), .string (bsS (wordOf a))][j]? = some u → (flatP l)[i * 3 + j]? = some u
 | [], i, a, h, _, _, _ => by simp at h
 | b :: l, 0, a, h, j, u, hu => by
  simp at h
  subst h
  have hj : j < 3 := by have := (List.getElem?_eq_some_iff.1 hu).1; simpa using this
  show ([Value.int .i64 (rankOf b : Int), .int .i64 (numOf b : Int), .string (bsS (wordOf b))] ++ flatP l)[0 * 3 + j]? = _
  rw [List.getElem?_append_left (by simp; omega), Nat.zero_mul, Nat.zero_add]
  exact hu
 | b :: l, i + 1, a, h, j, u, hu => by
  show ([Value.int .i64 (rankOf b : Int), .int .i64 (numOf b : Int), .string (bsS (wordOf b))] ++ flatP l)[(i + 1) * 3 + j]? = _
  rw [List.getElem?_append_right (by simp; omega)]
  have e : (i + 1) * 3 + j - [Value.int .i64 (rankOf b : Int), .int .i64 (numOf b : Int), .string (bsS (wordOf b))].length = i * 3 + j := by simp; omega
  rw [e]
  exact flatP_at l i a (by simpa using h) j u hu
theorem slPart : SlT Tryd.prog 96 100 3 32 := SlT.mk' (z := .agg #[.int .i64 0, .int .i64 0, .string .empty]) Tryd.underlying96 (by kernel_rfl) rfl (by decide)
theorem own_zero {base : Nat} {e : TypeId} {size k : Nat} {v : Value} {xs : List Value} (h : w.ownsRow base e size v k xs) : w.ownsRow 0 e size v k xs := by
 refine ⟨h.1, ?_⟩
 rcases h.2 with ⟨rfl, h0⟩ | ⟨g, cap, cur, rfl, hb, hr⟩
 ·exact .inl ⟨rfl, h0⟩
 ·exact .inr ⟨g, cap, cur, rfl, Nat.zero_le _, hr⟩
theorem bsS_list (a : List UInt8) : (bsS a).toList = a := by rw [ByteArray.toList_eq]
theorem parts_row {base : Nat} {v : Value} {l : List (List UInt8)} (h : w.ownsRow base 100 3 v l.length (flatP l)) (hp : l.all partB = true) (hk : ∀ a ∈ l, a.length ≤ 1000) : RowT 3 PartC w.heap.size w v (l.map partOf) := by
 refine RowT.of_own (e := 100) (cs := flatP l) (by rw [List.length_map]; exact own_zero h) fun i hi => ?_
 rw [List.length_map] at hi
 refine ⟨_, rfl, flatP_at l i l[i] (List.getElem?_eq_getElem hi), ?_⟩
 rw [List.getElem_map]
 rw [List.all_eq_true] at hp
 have hpa := hp l[i] (List.getElem_mem hi)
 have hla := hk l[i] (List.getElem_mem hi)
 refine ⟨rfl, ?_, ?_, ?_⟩
 ·show rankOf l[i] ≤ 2
  unfold rankOf
  split
  ·omega
  ·split <;> omega
 ·show numOf l[i] ≤ 999999999
  unfold numOf
  split
  ·omega
  ·split
   ·omega
   ·rename_i h1 h2
    unfold partB at hpa
    rw [Bool.or_eq_true] at hpa
    have := (Vn.num_read (hpa.resolve_left h2)).2.1
    omega
 ·show okS (bsS (wordOf l[i]))
  unfold okS bsS
  have : (wordOf l[i]).length ≤ 1000 := by
   unfold wordOf
   split
   ·exact hla
   ·simp
  show (wordOf l[i]).toArray.size ≤ _
  rw [List.size_toArray]
  unfold maxLen
  omega
end
end Go.Proofs.YtmlfchjompfmaaaDoor

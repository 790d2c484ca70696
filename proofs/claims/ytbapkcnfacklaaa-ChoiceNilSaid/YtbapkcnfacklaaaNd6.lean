/- ref10.Has; the chapter's example; NeedsMore. -/
import Derived.Test.YtbapkcnfacklaaaNd5
set_option linter.unusedVariables false
namespace Go.Proofs.Ytbapkcnfacklaaa
open Go.RowKit Go.Shelf
section
variable {w w' : World} {B : Nat}
theorem ints_of_nats {v : Value} {l : List Nat} (h : w.ownsRow 0 3 1 v l.length (natsV l)) (hl : ∀ i ∈ l, i ≤ 1000000) : Ints w v (intsOf l) := by
 have e1 : (intsOf l).map (Value.int .i64) = natsV l := by simp [intsOf, natsV]
 refine Ints.of_own ?_ fun z hz => ?_
 ·rw [e1]; simpa [intsOf] using h
 ·obtain ⟨i, hi, rfl⟩ := List.mem_map.1 hz
  have := hl i hi
  exact ⟨by omega, by omega⟩
theorem rangeAt_block {b o : Nat} {arr : Array Value} {t : TypeId} {f : Nat × Nat} {cs : List Value} (h : w.heap[b]? = some (.cells arr t f)) (hs : (arr.toList.drop o).take cs.length = cs) : w.rangeAt b o cs := by
 intro j u hu
 rw [cell_block h]
 have hj := (List.getElem?_eq_some_iff.1 hu).1
 rw [← hs, List.getElem?_take, if_pos hj, List.getElem?_drop] at hu
 rw [← hu, Array.getElem?_toList]
theorem RowT.lit {α : Type} {n : Nat} {C : Nat → World → List Value → α → Prop} {b cap : Nat} {arr : Array Value} {t : TypeId} {f : Nat × Nat} {xs : List α} {m : Nat} (h : w.heap[b]? = some (.cells arr t f)) (hb : b < B) (hB : B ≤ w.heap.size) (hm : xs.length = m) (hc : m ≤ cap) (hc2 : cap ≤ 1000)
  (hx : ∀ i (hi : i < xs.length), ∃ cs, cs.length = n ∧ (arr.toList.drop (i * n)).take cs.length = cs ∧ C B w cs xs[i]) : RowT n C B w (.slice (some ⟨b, 0, none⟩) m cap) xs := by
 subst hm
 refine ⟨⟨_, cap, rfl, hc, by omega⟩, fun ao len cap' hv hp => ?_, fun len cap' hv => by simp at hv⟩
 simp only [Value.slice.injEq] at hv
 obtain ⟨rfl, -, -⟩ := hv
 refine ⟨b, 0, rfl, hb, hB, fun i hi => ?_⟩
 obtain ⟨cs, h1, h2, h3⟩ := hx i hi
 refine ⟨cs, h1, ?_, h3⟩
 rw [Nat.zero_add]
 exact rangeAt_block h h2
theorem alloc_at {w : World} {o : Obj} {n : Nat} (h : w.heap.size = n) : (w.alloc o).heap[n]? = some o := by subst h; exact heap_alloc_new w o
theorem z64 : InI64 0 := by constructor <;> decide
def bs (l : List UInt8) : Str := ⟨l.toArray⟩
theorem ok10 (l : List UInt8) (h : l.length ≤ 1000) : okS (bs l) := by
 show (bs l).size ≤ maxLen
 unfold maxLen
 have : (bs l).size = l.length := by simp [bs, ByteArray.size]
 omega
end
end Go.Proofs.Ytbapkcnfacklaaa

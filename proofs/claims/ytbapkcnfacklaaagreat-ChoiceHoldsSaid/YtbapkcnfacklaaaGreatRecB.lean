/- A slice of bytes that came in, as it lies (for reading). -/
import Derived.Test.YtbapkcnfacklaaaGreatRecO
import Derived.Test.YtbapkcnfacklaaaGreatGd1
set_option linter.unusedVariables false
namespace Go.Proofs.YtbapkcnfacklaaaGreat
open Go.RowKit Go.Deep Go.ChangeShapes Go.WideShapes Go.ChangeAt
section
variable {H : Type} {enc : TypeId × Value → H} {w : World} {base : Nat} {spare : Nat → Bool} {held : Bool} {x : DataW H × List MemPlace}
theorem cellsOf_u8 : Tryz.prog.cellsOf 5 = 1 := by kernel_rfl
theorem reads_u8 : Reads (H := H) enc w base spare held 5 U8C := fun h => by
 obtain ⟨k, rfl, -, wf⟩ := DataW.trod_int Tryz.underlying5 h
 obtain ⟨h1, h2⟩ := bounds_u8 wf
 refine ⟨k.toNat, ?_, by omega⟩
 rw [Int.toNat_of_nonneg h1]
theorem bytes_reads {a : Option Addr} {len cap fuel : Nat} (h : DataW.trod enc Tryz.prog w base spare held fuel 56 [.slice a len cap] = some x) : ∃ c, RowT 1 U8C w.heap.size w (.slice a len cap) c := by
 obtain ⟨v, xs, e, h1⟩ := rowT_of (by decide) Tryz.underlying56 cellsOf_u8 reads_u8 h
 simp only [List.cons.injEq, and_true] at e
 subst e
 exact ⟨xs, h1⟩
end
end Go.Proofs.YtbapkcnfacklaaaGreat

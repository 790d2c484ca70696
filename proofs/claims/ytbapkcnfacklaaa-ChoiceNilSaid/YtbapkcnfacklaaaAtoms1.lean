/- Atoms as keys of a map: the map of a table of atoms, its entries in the order of the list. -/
import Derived.Test.YtbapkcnfacklaaaBase
import Derived.Maps.Keyed
import Derived.DeepKeys4
set_option linter.unusedVariables false
namespace Go.Proofs.Ytbapkcnfacklaaa
open Go.RowKit
abbrev At := Int × Int × Int × Int
def encA (x : At) : Value := .agg #[.int .u8 x.1, .int .i64 x.2.1, .int .i64 x.2.2.1, .int .i64 x.2.2.2]
structure AtOk (x : At) : Prop where
 k : 0 ≤ x.1 ∧ x.1 ≤ 255
 a : InI64 x.2.1
 b : InI64 x.2.2.1
 c : InI64 x.2.2.2
theorem encA_inj {x y : At} (h : encA x = encA y) : x = y := by
 obtain ⟨a, b, c, d⟩ := x
 obtain ⟨a', b', c', d'⟩ := y
 unfold encA at h
 simp at h
 obtain ⟨rfl, rfl, rfl, rfl⟩ := h
 rfl
theorem cellsAtom : Try.prog.cellsOf 37 = 4 := by kernel_rfl
theorem cellsInt : Try.prog.cellsOf 3 = 1 := by kernel_rfl
theorem cellsU8 : Try.prog.cellsOf 5 = 1 := by kernel_rfl
theorem laidOutA : laidOutB Try.prog = true := by kernel_rfl
set_option maxRecDepth 100000 in
theorem wideAtom : (match Try.prog.underlying 37 with | some (.array _ _) | some (.struct _) => true | _ => false) = true := by rw [Try.underlying37]
theorem rowAtom : (37 : TypeId) < Try.prog.types.size := of_decide_eq_true (by kernel_rfl)
theorem deepAtom : Try.prog.keyTypeAt 2 37 = true := by kernel_rfl
set_option maxRecDepth 100000 in
theorem klAtom : WideMaps.KeyLaw Try.prog 37 := deep_law_laid laidOutA (m := 2) (by decide) rowAtom deepAtom wideAtom
theorem lawAtom : Maps.Keyed Try.prog 37 := Maps.Keyed.of_law klAtom
theorem keyTypeAtom : Try.prog.keyType 37 = true := by kernel_rfl
set_option maxRecDepth 100000 in
theorem formedAtom (x : At) : (encA x).formed Try.prog 37 = true := by simp [encA, Value.formed, Try.underlying37, cellsAtom]
set_option maxRecDepth 100000 in
theorem key_at {x : At} (h : AtOk x) : ∃ l, keyOf Try.prog 37 (encA x) = some l := by
 have hp : ∃ m, Try.prog.types.size + 1 = m + 2 := by
  have h0 : (37 : Nat) < Try.prog.types.size := rowAtom
  generalize Try.prog.types.size = n at *
  exact ⟨n - 1, by omega⟩
 obtain ⟨m, hm⟩ := hp
 have w0 : (Lit.int .u8 x.1).wf = true := WalkArith.wf_u8 (by have := h.k; omega)
 have w1 : (Lit.int .i64 x.2.1).wf = true := WalkArith.wf_i64 (by have := h.a; unfold InI64 at this; omega)
 have w2 : (Lit.int .i64 x.2.2.1).wf = true := WalkArith.wf_i64 (by have := h.b; unfold InI64 at this; omega)
 have w3 : (Lit.int .i64 x.2.2.2).wf = true := WalkArith.wf_i64 (by have := h.c; unfold InI64 at this; omega)
 unfold keyOf
 rw [Try.underlying37]
 simp only [keyTypeAtom, formedAtom, Bool.and_self, if_true, hm]
 simp [encA, Program.keyLits, Value.cells, Try.underlying37, Try.underlying5, Try.underlying3, cellsAtom, cellsInt, cellsU8, w0, w1, w2, w3]
end Go.Proofs.Ytbapkcnfacklaaa

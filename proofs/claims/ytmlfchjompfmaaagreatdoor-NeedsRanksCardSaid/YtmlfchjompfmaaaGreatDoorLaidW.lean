/- What the door's rows list of the library's variables: strconv's two errors and its powers of ten, out of 'laid'; a world that holds what is listed. -/
import Derived.Test.YtmlfchjompfmaaaGreatDoorWvA
import Derived.Test.YtmlfchjompfmaaaGreatDoorRows
import Derived.Lib.LaidTab
import Derived.LaidLaws
import Derived.LaidMore
import Derived.MakeChecks
import Derived.Deep.DeepHandedRow
import Derived.Deep.DeepWitnessRowRef
set_option linter.unusedVariables false
namespace Go.Proofs.YtmlfchjompfmaaaGreatDoor
open Go.RowKit
noncomputable def laidL : List (String × DataW Unit) := [("math/bits.deBruijn32tab", Rows.laid_math_bits_deBruijn32tab), ("math/bits.deBruijn64tab", Rows.laid_math_bits_deBruijn64tab), ("internal/strconv.uint64pow10", Rows.laid_internal_strconv_uint64pow10), ("unicode/utf8.acceptRanges", Rows.laid_unicode_utf8_acceptRanges), ("strconv.ErrRange", Rows.laid_strconv_ErrRange), ("strconv.ErrSyntax", Rows.laid_strconv_ErrSyntax), ("unicode/utf8.first", Rows.laid_unicode_utf8_first)]
theorem laid_one {P : Program} {w : World} : ∀ {l : List (String × DataW Unit)} {ps : List MemPlace}, DataW.LaidVars P w l ps → ∀ n d, (n, d) ∈ l → ∃ g t cs fuel p, P.globalNamed n = some g ∧ (P.globals[g]?).map (·.type) = some t ∧ w.var? P n = some cs ∧ DataW.trod (fun _ => ()) P w 0 (fun _ => true) false fuel t cs.toList = some (d, p)
 | [], _, _, _, _, hm => by cases hm
 | (n', d') :: r, ps, h, n, d, hm => by
  obtain ⟨g, t, cs, fuel, p, q, h1, h2, h3, h4, h5, _⟩ := h
  rcases List.mem_cons.1 hm with e | e
  ·cases e
   exact ⟨g, t, cs, fuel, p, h1, h2, h3, h4⟩
  ·exact laid_one h5 n d e
theorem gErrS : Tryz.prog.globalNamed "strconv.ErrSyntax" = some 3 := by kernel_rfl
theorem gErrR : Tryz.prog.globalNamed "strconv.ErrRange" = some 4 := by kernel_rfl
theorem gPow : Tryz.prog.globalNamed "internal/strconv.uint64pow10" = some 5 := by kernel_rfl
theorem tErrS : (Tryz.prog.globals[3]?).map (·.type) = some 107 := by kernel_rfl
theorem tErrR : (Tryz.prog.globals[4]?).map (·.type) = some 107 := by kernel_rfl
theorem tPow : (Tryz.prog.globals[5]?).map (·.type) = some 168 := by kernel_rfl
theorem pow_data : (Rows.laid_internal_strconv_uint64pow10 : DataW Unit) = Lib.tabData .u64 Lib.pow10Tab := by kernel_rfl
theorem laid_of {W : World} (h : laidMetH Tryz.prog laidL W) : Laid W := by
 rw [MakeChecks.laidMetH_plain _ _ _ (by kernel_rfl)] at h
 obtain ⟨ps, hv, -⟩ := h
 refine ⟨?_, ?_, ?_⟩
 ·obtain ⟨g, t, cs, fuel, p, h1, h2, h3, h4⟩ := laid_one hv "strconv.ErrSyntax" Rows.laid_strconv_ErrSyntax (by simp [laidL])
  obtain rfl := Option.some.inj (gErrS.symm.trans h1)
  obtain rfl := Option.some.inj (tErrS.symm.trans h2)
  obtain ⟨_, u, v, e, -⟩ := iface_of_trod Tryz.underlying107 h4
  exact ⟨u, v, by rw [h3]; congr 1; apply Array.ext'; exact e⟩
 ·obtain ⟨g, t, cs, fuel, p, h1, h2, h3, h4⟩ := laid_one hv "strconv.ErrRange" Rows.laid_strconv_ErrRange (by simp [laidL])
  obtain rfl := Option.some.inj (gErrR.symm.trans h1)
  obtain rfl := Option.some.inj (tErrR.symm.trans h2)
  obtain ⟨_, u, v, e, -⟩ := iface_of_trod Tryz.underlying107 h4
  exact ⟨u, v, by rw [h3]; congr 1; apply Array.ext'; exact e⟩
 ·obtain ⟨g, t, cs, fuel, p, h1, h2, h3, h4⟩ := laid_one hv "internal/strconv.uint64pow10" Rows.laid_internal_strconv_uint64pow10 (by simp [laidL])
  obtain rfl := Option.some.inj (gPow.symm.trans h1)
  obtain rfl := Option.some.inj (tPow.symm.trans h2)
  rw [pow_data] at h4
  unfold Lib.TabIs
  rw [h3, ← Lib.cells_of_tab Tryz.underlying168 Tryz.underlying123 (by kernel_rfl) (by kernel_rfl) h4]
noncomputable def laidW (os : Os) : World :=
 let w0 := World.doorLaid Tryz.prog 4000 os
 { w0 with heap := w0.heap.modify 0 fun
  | .cells _ t f => .cells (Pinned.utf8FirstZ.map fun (z : Nat) => Value.int .u8 (z : Int)).toArray t f
  | o => o }
theorem laidW_met (os : Os) (args : Array Value) : laidMetH Tryz.prog laidL ((laidW os).forCall (fun _ _ => 0) ⟨#[], args, []⟩).memory := by
 rw [MakeChecks.laidMetH_plain _ _ _ (by kernel_rfl)]
 exact laidMet_of_run' 8 (by kernel_rfl) (by kernel_rfl)
end Go.Proofs.YtmlfchjompfmaaaGreatDoor

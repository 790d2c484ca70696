/- slices.Index, slices.Contains at []string, off the shelf. -/
import Derived.Test.YtmlfchjompfmaaaDoorProg
import Derived.Shelf.Slices.Turned
import Derived.ProofKit
set_option linter.unusedVariables false
namespace Go.Proofs.YtmlfchjompfmaaaDoor
def Tryd.laysIxS_ren : Go.Shelf.Ren := ⟨fun | 109 => 102 | n => n, fun | 0 => 0 | 3 => 3 | 4 => 4 | 9 => 9 | 31 => 22 | n => n, fun | n => n⟩
def Tryd.laysCoS_ren : Go.Shelf.Ren := ⟨fun | 110 => 85 | 109 => 102 | n => n, fun | 0 => 0 | 3 => 3 | 4 => 4 | 9 => 9 | 31 => 22 | n => n, fun | n => n⟩
theorem Tryd.laysCoS : Go.Proofs.Lays.n110 Tryd.prog Tryd.laysCoS_ren := {
 mixed := by kernel_rfl
 f110 := Tryd.func85.trans (congrArg some (by kernel_rfl))
 f109 := Tryd.func102.trans (congrArg some (by kernel_rfl))
 t0 := Tryd.underlying0
 a0 := Tryd.isAgg0
 z0 := Tryd.sizeOf0
 v0 := Tryd.zeroValue0
 t3 := Tryd.underlying3
 a3 := Tryd.isAgg3
 z3 := Tryd.sizeOf3
 v3 := Tryd.zeroValue3
 t4 := Tryd.underlying4
 a4 := Tryd.isAgg4
 z4 := Tryd.sizeOf4
 v4 := Tryd.zeroValue4
 t9 := Tryd.underlying9
 a9 := Tryd.isAgg9
 z9 := Tryd.sizeOf9
 v9 := Tryd.zeroValue9
 t31 := Tryd.underlying22
 a31 := Tryd.isAgg22
 z31 := Tryd.sizeOf22
 v31 := Tryd.zeroValue22 }
theorem Tryd.slices_Contains_string (b off n c : Nat) (zs : List ByteArray) (x : ByteArray) (w : World) (hz : n ≤ zs.length) (hbig : n ≤ 9223372036854775807) (hc : ∀ j, j < zs.length → w.cell? ⟨b, off + j, none⟩ = some (.string (zs.getD j ByteArray.empty))) :
  Calls Tryd.prog 85 #[.slice (some ⟨b, off, none⟩) n c, .string x] w fun e w' => e = .returned (.bool (Lib.containsS (zs.take n) x)) ∧ w' = w := Any.slices_Contains_string Tryd.laysCoS b off n c zs x w hz hbig hc
theorem Tryd.slices_Contains_string_empty (a : Option Addr) (c : Nat) (x : ByteArray) (w : World) :
  Calls Tryd.prog 85 #[.slice a 0 c, .string x] w fun e w' => e = .returned (.bool false) ∧ w' = w := Any.slices_Contains_string_empty Tryd.laysCoS a c x w
end Go.Proofs.YtmlfchjompfmaaaDoor

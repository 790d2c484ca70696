/- slices.Index, slices.Contains at []string, off the shelf. -/
import Derived.Test.YtbapkcnfacklaaaProg
import Derived.Shelf.Slices.Turned
import Derived.ProofKit
set_option linter.unusedVariables false
namespace Go.Proofs.Ytbapkcnfacklaaa
def Try.laysIxS_ren : Go.Shelf.Ren := ⟨fun | 109 => 58 | n => n, fun | 0 => 0 | 3 => 3 | 4 => 4 | 9 => 9 | 31 => 54 | n => n, fun | n => n⟩
def Try.laysCoS_ren : Go.Shelf.Ren := ⟨fun | 110 => 51 | 109 => 58 | n => n, fun | 0 => 0 | 3 => 3 | 4 => 4 | 9 => 9 | 31 => 54 | n => n, fun | n => n⟩
theorem Try.laysCoS : Go.Proofs.Lays.n110 Try.prog Try.laysCoS_ren := {
 mixed := by kernel_rfl
 f110 := Try.func51.trans (congrArg some (by kernel_rfl))
 f109 := Try.func58.trans (congrArg some (by kernel_rfl))
 t0 := Try.underlying0
 a0 := Try.isAgg0
 z0 := Try.sizeOf0
 v0 := Try.zeroValue0
 t3 := Try.underlying3
 a3 := Try.isAgg3
 z3 := Try.sizeOf3
 v3 := Try.zeroValue3
 t4 := Try.underlying4
 a4 := Try.isAgg4
 z4 := Try.sizeOf4
 v4 := Try.zeroValue4
 t9 := Try.underlying9
 a9 := Try.isAgg9
 z9 := Try.sizeOf9
 v9 := Try.zeroValue9
 t31 := Try.underlying54
 a31 := Try.isAgg54
 z31 := Try.sizeOf54
 v31 := Try.zeroValue54 }
theorem Try.slices_Contains_string (b off n c : Nat) (zs : List ByteArray) (x : ByteArray) (w : World) (hz : n ≤ zs.length) (hbig : n ≤ 9223372036854775807) (hc : ∀ j, j < zs.length → w.cell? ⟨b, off + j, none⟩ = some (.string (zs.getD j ByteArray.empty))) :
  Calls Try.prog 51 #[.slice (some ⟨b, off, none⟩) n c, .string x] w fun e w' => e = .returned (.bool (Lib.containsS (zs.take n) x)) ∧ w' = w := Any.slices_Contains_string Try.laysCoS b off n c zs x w hz hbig hc
theorem Try.slices_Contains_string_empty (a : Option Addr) (c : Nat) (x : ByteArray) (w : World) :
  Calls Try.prog 51 #[.slice a 0 c, .string x] w fun e w' => e = .returned (.bool false) ∧ w' = w := Any.slices_Contains_string_empty Try.laysCoS a c x w
end Go.Proofs.Ytbapkcnfacklaaa

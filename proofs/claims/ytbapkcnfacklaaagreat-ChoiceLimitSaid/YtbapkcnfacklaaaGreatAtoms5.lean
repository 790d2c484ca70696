/- A table: is it full? -/
import Derived.Test.YtbapkcnfacklaaaGreatAtomsA
set_option linter.unusedVariables false
namespace Go.Proofs.YtbapkcnfacklaaaGreat
open Go.RowKit
section
variable {w : World} {g : Tag} {b : Nat} {V : TabV} {T : Tab}
theorem tabFull_any (H : TabAt w g b V T) : Calls Tryz.prog 19 #[.pointer (some ⟨b, 0, none⟩)] w fun e w' => e = .returned (.bool T.full) ∧ w' = w := by
 have q1 : w.cell? ⟨b, 4, none⟩ = some (.bool T.full) := by rw [cell_block H.blk]; rfl
 go_enter Tryz.func19, Tryz.ntmps19
 go_wp2_with fail
 go_ret
 exact ⟨rfl, rfl⟩
end
end Go.Proofs.YtbapkcnfacklaaaGreat

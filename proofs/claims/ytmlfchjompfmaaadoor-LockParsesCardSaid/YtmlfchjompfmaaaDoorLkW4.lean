/- The last node that was read. -/
import Derived.Test.YtmlfchjompfmaaaDoorLkW3
import Derived.BigQuiet
set_option linter.unusedVariables false
namespace Go.Proofs.YtmlfchjompfmaaaDoor
open Go.RowKit
section
variable {w w' : World} {B : Nat}
set_option maxRecDepth 100000 in
theorem last_nil {P : Nat} {ao : Option Addr} {cap : Nat} (hc : w.cell? ⟨P, 0, none⟩ = some (.slice ao 0 cap)) : Calls Tryd.prog 80 #[.pointer (some ⟨P, 0, none⟩)] w (fun e w' => e = .returned (.pointer none) ∧ Only (fun _ => False) w w') := by
 go_enter Tryd.func80, Tryd.ntmps80
 go_wp2_with fail
 go_ret
 exact ⟨rfl, Only.refl _ _⟩
set_option maxRecDepth 100000 in
theorem last_some {P g n cap : Nat} (hc : w.cell? ⟨P, 0, none⟩ = some (.slice (some ⟨g, 0, none⟩) (n + 1) cap)) (hn : n ≤ 1000000) : Calls Tryd.prog 80 #[.pointer (some ⟨P, 0, none⟩)] w (fun e w' => e = .returned (.pointer (some ⟨g, n * 4, none⟩)) ∧ Only (fun _ => False) w w') := by
 have ew : IntKind.i64.wrap (((n + 1 : Nat) : Int) - 1) = (n : Int) := by rw [IntKind.wrap_i64]; omega
 have ew2 : IntKind.i64.wrap ((n : Int) + 1 - 1) = (n : Int) := by rw [IntKind.wrap_i64]; omega
 have h0 : ¬ ((n : Int) + 1 = 0) := by omega
 have h1 : n < n + 1 := Nat.lt_succ_self n
 go_enter Tryd.func80, Tryd.ntmps80
 go_wp2_with fail
 go_quiet (fail)
 trace_state
 go_wp2_with fail
 go_ret
 exact ⟨rfl, (Only.refl _ _).drewN _⟩
end
end Go.Proofs.YtmlfchjompfmaaaDoor

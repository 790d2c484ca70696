/- ChoiceRules: the walk. Printed by gen_ch14.py. -/
import Derived.Test.YtbapkcnfacklaaaGreatChC
import Derived.Test.YtbapkcnfacklaaaGreatRfD
set_option linter.unusedVariables false
namespace Go.Proofs.YtbapkcnfacklaaaGreat
open Go.RowKit
section
variable {w w' : World} {B : Nat}
theorem RuleC_at {ao : Option Addr} {len cap i : Nat} {xs : List RuleD} {y : RuleD} (h : RowT 4 RuleC B w (.slice ao len cap) xs) (hx : xs[i]? = some y) :
  ∃ (b off : Nat), ao = some ⟨b, off, none⟩ ∧ ((0 ≤ y.kind ∧ y.kind ≤ 255) ∧ InI64 y.pack ∧ InI64 y.idx ∧ InI64 y.line) ∧
  ∀ W, Only (fun _ => False) w W → W.rangeAt b (off + i * 4) [.int .u8 y.kind, .int .i64 y.pack, .int .i64 y.idx, .int .i64 y.line] := by
 obtain ⟨b, off, cs, rfl, hb, hB, -, hr, hC⟩ := h.placed hx
 obtain ⟨rfl, hk⟩ := hC
 exact ⟨b, off, rfl, hk, fun W ho => rangeAt_keep hr hb hB (Kp.of0 ho)⟩
end
end Go.Proofs.YtbapkcnfacklaaaGreat

/- One of a row's structs: where it lies, and its cells at each later world. Printed by rowb.py. -/
import Derived.Test.YtmlfchjompfmaaaGreatDoorRec1
set_option linter.unusedVariables false
namespace Go.Proofs.YtmlfchjompfmaaaGreatDoor
open Go.RowKit
section
variable {w w' : World} {B : Nat}
theorem RowT.placed {α : Type} {n : Nat} {C : Nat → World → List Value → α → Prop} {ao : Option Addr} {len cap i : Nat} {xs : List α} {y : α} (h : RowT n C B w (.slice ao len cap) xs) (hx : xs[i]? = some y) :
  ∃ b off cs, ao = some ⟨b, off, none⟩ ∧ b < B ∧ B ≤ w.heap.size ∧ cs.length = n ∧ w.rangeAt b (off + i * n) cs ∧ C B w cs y := by
 obtain ⟨hlt, rfl⟩ := List.getElem?_eq_some_iff.1 hx
 obtain ⟨b, off, rfl, h1, h2, hc⟩ := h.cells _ _ _ rfl (by omega)
 obtain ⟨cs, g1, g2, g3⟩ := hc i hlt
 exact ⟨b, off, cs, rfl, h1, h2, g1, g2, g3⟩
theorem StrC_at {ao : Option Addr} {len cap i : Nat} {xs : List Str} {y : Str} (h : RowT 1 StrC B w (.slice ao len cap) xs) (hx : xs[i]? = some y) :
  ∃ (b off : Nat), ao = some ⟨b, off, none⟩ ∧ okS y ∧
  ∀ W, Only (fun _ => False) w W → W.rangeAt b (off + i * 1) [.string y] ∧ StrC B W [.string y] y := by
 obtain ⟨b, off, cs, rfl, hb, hB, -, hr, hC⟩ := h.placed hx
 have hC0 := hC
 obtain ⟨rfl, ok1⟩ := hC
 exact ⟨b, off, rfl, ok1, fun W ho => ⟨rangeAt_keep hr hb hB (Kp.of0 ho), StrC.keep hC0 (Kp.of0 ho)⟩⟩
theorem RelC_at {ao : Option Addr} {len cap i : Nat} {xs : List RelD} {y : RelD} (h : RowT 2 RelC B w (.slice ao len cap) xs) (hx : xs[i]? = some y) :
  ∃ (b off : Nat), ao = some ⟨b, off, none⟩ ∧ okS y.version ∧
  ∀ W, Only (fun _ => False) w W → W.rangeAt b (off + i * 2) [.string y.version, .bool y.old] ∧ RelC B W [.string y.version, .bool y.old] y := by
 obtain ⟨b, off, cs, rfl, hb, hB, -, hr, hC⟩ := h.placed hx
 have hC0 := hC
 obtain ⟨rfl, ok1⟩ := hC
 exact ⟨b, off, rfl, ok1, fun W ho => ⟨rangeAt_keep hr hb hB (Kp.of0 ho), RelC.keep hC0 (Kp.of0 ho)⟩⟩
theorem PrefC_at {ao : Option Addr} {len cap i : Nat} {xs : List PrefD} {y : PrefD} (h : RowT 3 PrefC B w (.slice ao len cap) xs) (hx : xs[i]? = some y) :
  ∃ (b off : Nat) (a1 : Option Addr) (n1 c1 : Nat), ao = some ⟨b, off, none⟩ ∧ y.names.length = n1 ∧ okS y.virtual ∧ InI64 y.line ∧
  ∀ W, Only (fun _ => False) w W → W.rangeAt b (off + i * 3) [.string y.virtual, .slice a1 n1 c1, .int .i64 y.line] ∧ RowT 1 StrC B W (.slice a1 n1 c1) y.names ∧ PrefC B W [.string y.virtual, .slice a1 n1 c1, .int .i64 y.line] y := by
 obtain ⟨b, off, cs, rfl, hb, hB, -, hr, hC⟩ := h.placed hx
 have hC0 := hC
 obtain ⟨v1, rfl, ok1, in1, r1⟩ := hC
 obtain ⟨a1, c1, rfl, -, -⟩ := r1.shape
 exact ⟨b, off, a1, _, c1, rfl, rfl, ok1, in1, fun W ho => ⟨rangeAt_keep hr hb hB (Kp.of0 ho), r1.keep StrC.keep (Kp.of0 ho), PrefC.keep hC0 (Kp.of0 ho)⟩⟩
end
end Go.Proofs.YtmlfchjompfmaaaGreatDoor

/- One of a row's structs: where it lies, and its cells at each later world. Printed by rowb.py. -/
import Derived.Test.YtbapkcnfacklaaaGreatRec1
set_option linter.unusedVariables false
namespace Go.Proofs.YtbapkcnfacklaaaGreat
open Go.RowKit
section
variable {w w' : World} {B : Nat}
theorem RowT.placed {α : Type} {n : Nat} {C : Nat → World → List Value → α → Prop} {ao : Option Addr} {len cap i : Nat} {xs : List α} {y : α} (h : RowT n C B w (.slice ao len cap) xs) (hx : xs[i]? = some y) :
  ∃ b off cs, ao = some ⟨b, off, none⟩ ∧ b < B ∧ B ≤ w.heap.size ∧ cs.length = n ∧ w.rangeAt b (off + i * n) cs ∧ C B w cs y := by
 obtain ⟨hlt, rfl⟩ := List.getElem?_eq_some_iff.1 hx
 obtain ⟨b, off, rfl, h1, h2, hc⟩ := h.cells _ _ _ rfl (by omega)
 obtain ⟨cs, g1, g2, g3⟩ := hc i hlt
 exact ⟨b, off, cs, rfl, h1, h2, g1, g2, g3⟩
theorem StrC_at {ao : Option Addr} {len cap i : Nat} {xs : List Str} {y : Str} (h : RowT 1 StrC B w (.slice ao len cap) xs) (hx : xs[i]? = some y) :
  ∃ (b off : Nat), ao = some ⟨b, off, none⟩ ∧ okS y ∧
  ∀ W, Only (fun _ => False) w W → W.rangeAt b (off + i * 1) [.string y] ∧ StrC B W [.string y] y := by
 obtain ⟨b, off, cs, rfl, hb, hB, -, hr, hC⟩ := h.placed hx
 have hC0 := hC
 obtain ⟨rfl, ok1⟩ := hC
 exact ⟨b, off, rfl, ok1, fun W ho => ⟨rangeAt_keep hr hb hB (Kp.of0 ho), StrC.keep hC0 (Kp.of0 ho)⟩⟩
theorem SpanC_at {ao : Option Addr} {len cap i : Nat} {xs : List SpanD} {y : SpanD} (h : RowT 2 SpanC B w (.slice ao len cap) xs) (hx : xs[i]? = some y) :
  ∃ (b off : Nat), ao = some ⟨b, off, none⟩ ∧ okS y.lo ∧ okS y.hi ∧
  ∀ W, Only (fun _ => False) w W → W.rangeAt b (off + i * 2) [.string y.lo, .string y.hi] ∧ SpanC B W [.string y.lo, .string y.hi] y := by
 obtain ⟨b, off, cs, rfl, hb, hB, -, hr, hC⟩ := h.placed hx
 have hC0 := hC
 obtain ⟨rfl, ok1, ok2⟩ := hC
 exact ⟨b, off, rfl, ok1, ok2, fun W ho => ⟨rangeAt_keep hr hb hB (Kp.of0 ho), SpanC.keep hC0 (Kp.of0 ho)⟩⟩
theorem SetC_at {ao : Option Addr} {len cap i : Nat} {xs : List SetD} {y : SetD} (h : RowT 2 SetC B w (.slice ao len cap) xs) (hx : xs[i]? = some y) :
  ∃ (b off : Nat), ao = some ⟨b, off, none⟩ ∧ okS y.name ∧ okS y.value ∧
  ∀ W, Only (fun _ => False) w W → W.rangeAt b (off + i * 2) [.string y.name, .string y.value] ∧ SetC B W [.string y.name, .string y.value] y := by
 obtain ⟨b, off, cs, rfl, hb, hB, -, hr, hC⟩ := h.placed hx
 have hC0 := hC
 obtain ⟨rfl, ok1, ok2⟩ := hC
 exact ⟨b, off, rfl, ok1, ok2, fun W ho => ⟨rangeAt_keep hr hb hB (Kp.of0 ho), SetC.keep hC0 (Kp.of0 ho)⟩⟩
theorem RelC_at {ao : Option Addr} {len cap i : Nat} {xs : List RelD} {y : RelD} (h : RowT 2 RelC B w (.slice ao len cap) xs) (hx : xs[i]? = some y) :
  ∃ (b off : Nat), ao = some ⟨b, off, none⟩ ∧ okS y.version ∧
  ∀ W, Only (fun _ => False) w W → W.rangeAt b (off + i * 2) [.string y.version, .bool y.old] ∧ RelC B W [.string y.version, .bool y.old] y := by
 obtain ⟨b, off, cs, rfl, hb, hB, -, hr, hC⟩ := h.placed hx
 have hC0 := hC
 obtain ⟨rfl, ok1⟩ := hC
 exact ⟨b, off, rfl, ok1, fun W ho => ⟨rangeAt_keep hr hb hB (Kp.of0 ho), RelC.keep hC0 (Kp.of0 ho)⟩⟩
theorem VarC_at {ao : Option Addr} {len cap i : Nat} {xs : List VarD} {y : VarD} (h : RowT 2 VarC B w (.slice ao len cap) xs) (hx : xs[i]? = some y) :
  ∃ (b off : Nat) (a1 : Option Addr) (n1 c1 : Nat), ao = some ⟨b, off, none⟩ ∧ y.values.length = n1 ∧ okS y.name ∧
  ∀ W, Only (fun _ => False) w W → W.rangeAt b (off + i * 2) [.string y.name, .slice a1 n1 c1] ∧ RowT 1 StrC B W (.slice a1 n1 c1) y.values ∧ VarC B W [.string y.name, .slice a1 n1 c1] y := by
 obtain ⟨b, off, cs, rfl, hb, hB, -, hr, hC⟩ := h.placed hx
 have hC0 := hC
 obtain ⟨v1, rfl, ok1, r1⟩ := hC
 obtain ⟨a1, c1, rfl, -, -⟩ := r1.shape
 exact ⟨b, off, a1, _, c1, rfl, rfl, ok1, fun W ho => ⟨rangeAt_keep hr hb hB (Kp.of0 ho), r1.keep StrC.keep (Kp.of0 ho), VarC.keep hC0 (Kp.of0 ho)⟩⟩
theorem DepC_at {ao : Option Addr} {len cap i : Nat} {xs : List DepD} {y : DepD} (h : RowT 7 DepC B w (.slice ao len cap) xs) (hx : xs[i]? = some y) :
  ∃ (b off : Nat) (a1 : Option Addr) (n1 c1 : Nat) (a2 : Option Addr) (n2 c2 : Nat) (a3 : Option Addr) (n3 c3 : Nat) (a4 : Option Addr) (n4 c4 : Nat), ao = some ⟨b, off, none⟩ ∧ y.on.spans.length = n1 ∧ y.on.sets.length = n2 ∧ y.cond.spans.length = n3 ∧ y.cond.sets.length = n4 ∧ okS y.on.name ∧ okS y.cond.name ∧ InI64 y.line ∧
  ∀ W, Only (fun _ => False) w W → W.rangeAt b (off + i * 7) [.string y.on.name, .slice a1 n1 c1, .slice a2 n2 c2, .string y.cond.name, .slice a3 n3 c3, .slice a4 n4 c4, .int .i64 y.line] ∧ RowT 2 SpanC B W (.slice a1 n1 c1) y.on.spans ∧ RowT 2 SetC B W (.slice a2 n2 c2) y.on.sets ∧ RowT 2 SpanC B W (.slice a3 n3 c3) y.cond.spans ∧ RowT 2 SetC B W (.slice a4 n4 c4) y.cond.sets ∧ DepC B W [.string y.on.name, .slice a1 n1 c1, .slice a2 n2 c2, .string y.cond.name, .slice a3 n3 c3, .slice a4 n4 c4, .int .i64 y.line] y := by
 obtain ⟨b, off, cs, rfl, hb, hB, -, hr, hC⟩ := h.placed hx
 have hC0 := hC
 obtain ⟨q1, q2, rfl, ⟨v1, v2, rfl, ok1, r1, r2⟩, ⟨v3, v4, rfl, ok2, r3, r4⟩, in1⟩ := hC
 obtain ⟨a1, c1, rfl, -, -⟩ := r1.shape
 obtain ⟨a2, c2, rfl, -, -⟩ := r2.shape
 obtain ⟨a3, c3, rfl, -, -⟩ := r3.shape
 obtain ⟨a4, c4, rfl, -, -⟩ := r4.shape
 exact ⟨b, off, a1, _, c1, a2, _, c2, a3, _, c3, a4, _, c4, rfl, rfl, rfl, rfl, rfl, ok1, ok2, in1, fun W ho => ⟨rangeAt_keep hr hb hB (Kp.of0 ho), r1.keep SpanC.keep (Kp.of0 ho), r2.keep SetC.keep (Kp.of0 ho), r3.keep SpanC.keep (Kp.of0 ho), r4.keep SetC.keep (Kp.of0 ho), DepC.keep hC0 (Kp.of0 ho)⟩⟩
theorem ConC_at {ao : Option Addr} {len cap i : Nat} {xs : List ConD} {y : ConD} (h : RowT 7 ConC B w (.slice ao len cap) xs) (hx : xs[i]? = some y) :
  ∃ (b off : Nat) (a1 : Option Addr) (n1 c1 : Nat) (a2 : Option Addr) (n2 c2 : Nat) (a3 : Option Addr) (n3 c3 : Nat) (a4 : Option Addr) (n4 c4 : Nat), ao = some ⟨b, off, none⟩ ∧ y.cond.spans.length = n1 ∧ y.cond.sets.length = n2 ∧ y.with'.spans.length = n3 ∧ y.with'.sets.length = n4 ∧ okS y.cond.name ∧ okS y.with'.name ∧ InI64 y.line ∧
  ∀ W, Only (fun _ => False) w W → W.rangeAt b (off + i * 7) [.string y.cond.name, .slice a1 n1 c1, .slice a2 n2 c2, .string y.with'.name, .slice a3 n3 c3, .slice a4 n4 c4, .int .i64 y.line] ∧ RowT 2 SpanC B W (.slice a1 n1 c1) y.cond.spans ∧ RowT 2 SetC B W (.slice a2 n2 c2) y.cond.sets ∧ RowT 2 SpanC B W (.slice a3 n3 c3) y.with'.spans ∧ RowT 2 SetC B W (.slice a4 n4 c4) y.with'.sets ∧ ConC B W [.string y.cond.name, .slice a1 n1 c1, .slice a2 n2 c2, .string y.with'.name, .slice a3 n3 c3, .slice a4 n4 c4, .int .i64 y.line] y := by
 obtain ⟨b, off, cs, rfl, hb, hB, -, hr, hC⟩ := h.placed hx
 have hC0 := hC
 obtain ⟨q1, q2, rfl, ⟨v1, v2, rfl, ok1, r1, r2⟩, ⟨v3, v4, rfl, ok2, r3, r4⟩, in1⟩ := hC
 obtain ⟨a1, c1, rfl, -, -⟩ := r1.shape
 obtain ⟨a2, c2, rfl, -, -⟩ := r2.shape
 obtain ⟨a3, c3, rfl, -, -⟩ := r3.shape
 obtain ⟨a4, c4, rfl, -, -⟩ := r4.shape
 exact ⟨b, off, a1, _, c1, a2, _, c2, a3, _, c3, a4, _, c4, rfl, rfl, rfl, rfl, rfl, ok1, ok2, in1, fun W ho => ⟨rangeAt_keep hr hb hB (Kp.of0 ho), r1.keep SpanC.keep (Kp.of0 ho), r2.keep SetC.keep (Kp.of0 ho), r3.keep SpanC.keep (Kp.of0 ho), r4.keep SetC.keep (Kp.of0 ho), ConC.keep hC0 (Kp.of0 ho)⟩⟩
theorem PackC_at {ao : Option Addr} {len cap i : Nat} {xs : List PackD} {y : PackD} (h : RowT 8 PackC B w (.slice ao len cap) xs) (hx : xs[i]? = some y) :
  ∃ (b off : Nat) (a1 : Option Addr) (n1 c1 : Nat) (a2 : Option Addr) (n2 c2 : Nat) (a3 : Option Addr) (n3 c3 : Nat) (a4 : Option Addr) (n4 c4 : Nat) (a5 : Option Addr) (n5 c5 : Nat) (a6 : Option Addr) (n6 c6 : Nat), ao = some ⟨b, off, none⟩ ∧ y.rels.length = n1 ∧ y.vars.length = n2 ∧ y.provides.length = n3 ∧ y.deps.length = n4 ∧ y.cons.length = n5 ∧ y.files.length = n6 ∧ okS y.name ∧ InI64 y.line ∧
  ∀ W, Only (fun _ => False) w W → W.rangeAt b (off + i * 8) [.string y.name, .int .i64 y.line, .slice a1 n1 c1, .slice a2 n2 c2, .slice a3 n3 c3, .slice a4 n4 c4, .slice a5 n5 c5, .slice a6 n6 c6] ∧ RowT 2 RelC B W (.slice a1 n1 c1) y.rels ∧ RowT 2 VarC B W (.slice a2 n2 c2) y.vars ∧ RowT 1 StrC B W (.slice a3 n3 c3) y.provides ∧ RowT 7 DepC B W (.slice a4 n4 c4) y.deps ∧ RowT 7 ConC B W (.slice a5 n5 c5) y.cons ∧ RowT 1 StrC B W (.slice a6 n6 c6) y.files ∧ PackC B W [.string y.name, .int .i64 y.line, .slice a1 n1 c1, .slice a2 n2 c2, .slice a3 n3 c3, .slice a4 n4 c4, .slice a5 n5 c5, .slice a6 n6 c6] y := by
 obtain ⟨b, off, cs, rfl, hb, hB, -, hr, hC⟩ := h.placed hx
 have hC0 := hC
 obtain ⟨v1, v2, v3, v4, v5, v6, rfl, ok1, in1, r1, r2, r3, r4, r5, r6⟩ := hC
 obtain ⟨a1, c1, rfl, -, -⟩ := r1.shape
 obtain ⟨a2, c2, rfl, -, -⟩ := r2.shape
 obtain ⟨a3, c3, rfl, -, -⟩ := r3.shape
 obtain ⟨a4, c4, rfl, -, -⟩ := r4.shape
 obtain ⟨a5, c5, rfl, -, -⟩ := r5.shape
 obtain ⟨a6, c6, rfl, -, -⟩ := r6.shape
 exact ⟨b, off, a1, _, c1, a2, _, c2, a3, _, c3, a4, _, c4, a5, _, c5, a6, _, c6, rfl, rfl, rfl, rfl, rfl, rfl, rfl, ok1, in1, fun W ho => ⟨rangeAt_keep hr hb hB (Kp.of0 ho), r1.keep RelC.keep (Kp.of0 ho), r2.keep VarC.keep (Kp.of0 ho), r3.keep StrC.keep (Kp.of0 ho), r4.keep DepC.keep (Kp.of0 ho), r5.keep ConC.keep (Kp.of0 ho), r6.keep StrC.keep (Kp.of0 ho), PackC.keep hC0 (Kp.of0 ho)⟩⟩
theorem PrefC_at {ao : Option Addr} {len cap i : Nat} {xs : List PrefD} {y : PrefD} (h : RowT 3 PrefC B w (.slice ao len cap) xs) (hx : xs[i]? = some y) :
  ∃ (b off : Nat) (a1 : Option Addr) (n1 c1 : Nat), ao = some ⟨b, off, none⟩ ∧ y.names.length = n1 ∧ okS y.virtual ∧ InI64 y.line ∧
  ∀ W, Only (fun _ => False) w W → W.rangeAt b (off + i * 3) [.string y.virtual, .slice a1 n1 c1, .int .i64 y.line] ∧ RowT 1 StrC B W (.slice a1 n1 c1) y.names ∧ PrefC B W [.string y.virtual, .slice a1 n1 c1, .int .i64 y.line] y := by
 obtain ⟨b, off, cs, rfl, hb, hB, -, hr, hC⟩ := h.placed hx
 have hC0 := hC
 obtain ⟨v1, rfl, ok1, in1, r1⟩ := hC
 obtain ⟨a1, c1, rfl, -, -⟩ := r1.shape
 exact ⟨b, off, a1, _, c1, rfl, rfl, ok1, in1, fun W ho => ⟨rangeAt_keep hr hb hB (Kp.of0 ho), r1.keep StrC.keep (Kp.of0 ho), PrefC.keep hC0 (Kp.of0 ho)⟩⟩
theorem RootC_at {ao : Option Addr} {len cap i : Nat} {xs : List RootD} {y : RootD} (h : RowT 4 RootC B w (.slice ao len cap) xs) (hx : xs[i]? = some y) :
  ∃ (b off : Nat) (a1 : Option Addr) (n1 c1 : Nat) (a2 : Option Addr) (n2 c2 : Nat), ao = some ⟨b, off, none⟩ ∧ y.spec.spans.length = n1 ∧ y.spec.sets.length = n2 ∧ okS y.spec.name ∧ InI64 y.line ∧
  ∀ W, Only (fun _ => False) w W → W.rangeAt b (off + i * 4) [.string y.spec.name, .slice a1 n1 c1, .slice a2 n2 c2, .int .i64 y.line] ∧ RowT 2 SpanC B W (.slice a1 n1 c1) y.spec.spans ∧ RowT 2 SetC B W (.slice a2 n2 c2) y.spec.sets ∧ RootC B W [.string y.spec.name, .slice a1 n1 c1, .slice a2 n2 c2, .int .i64 y.line] y := by
 obtain ⟨b, off, cs, rfl, hb, hB, -, hr, hC⟩ := h.placed hx
 have hC0 := hC
 obtain ⟨q1, rfl, ⟨v1, v2, rfl, ok1, r1, r2⟩, in1⟩ := hC
 obtain ⟨a1, c1, rfl, -, -⟩ := r1.shape
 obtain ⟨a2, c2, rfl, -, -⟩ := r2.shape
 exact ⟨b, off, a1, _, c1, a2, _, c2, rfl, rfl, rfl, ok1, in1, fun W ho => ⟨rangeAt_keep hr hb hB (Kp.of0 ho), r1.keep SpanC.keep (Kp.of0 ho), r2.keep SetC.keep (Kp.of0 ho), RootC.keep hC0 (Kp.of0 ho)⟩⟩
end
end Go.Proofs.YtbapkcnfacklaaaGreat

/- Recipes and requests as plain data, and how they lie in memory, for reading: rows of structs. -/
import Derived.Test.YtmlfchjompfmaaaDoorBase
import Derived.Deep.MidRow
set_option linter.unusedVariables false
namespace Go.Proofs.YtmlfchjompfmaaaDoor
open Go.RowKit
abbrev Str := ByteArray
structure SetD where
 name : Str
 value : Str
instance : Inhabited SetD := ⟨⟨.empty, .empty⟩⟩
abbrev Kp (B : Nat) (w w' : World) : Prop := Only (fun k => B ≤ k) w w'
theorem Kp.of0 {B : Nat} {w w' : World} (h : Only (fun _ => False) w w') : Kp B w w' := h.mono fun _ f => f.elim
structure RowT {α : Type} (n : Nat) (C : Nat → World → List Value → α → Prop) (B : Nat) (w : World) (v : Value) (xs : List α) : Prop where
 shape : ∃ ao cap, v = .slice ao xs.length cap ∧ xs.length ≤ cap ∧ cap ≤ 9223372036854775807
 cells : ∀ ao len cap, v = .slice ao len cap → 0 < xs.length → ∃ b off, ao = some ⟨b, off, none⟩ ∧ b < B ∧ B ≤ w.heap.size ∧ ∀ i (h : i < xs.length), ∃ cs, cs.length = n ∧ w.rangeAt b (off + i * n) cs ∧ C B w cs xs[i]
 nil : ∀ len cap, v = .slice none len cap → len = 0 ∧ cap = 0
def Keeps {α : Type} (C : Nat → World → List Value → α → Prop) : Prop := ∀ ⦃B : Nat⦄ ⦃w w' : World⦄ ⦃cs : List Value⦄ ⦃x : α⦄, C B w cs x → Kp B w w' → C B w' cs x
theorem rangeAt_keep {B b o : Nat} {w w' : World} {cs : List Value} (h : w.rangeAt b o cs) (hb : b < B) (hB : B ≤ w.heap.size) (k : Kp B w w') : w'.rangeAt b o cs := by
 intro j u hu
 rw [World.cell?_of_block (w := w) (k.block b (by omega) (by omega))]
 exact h j u hu
theorem RowT.keep {α : Type} {n : Nat} {C : Nat → World → List Value → α → Prop} (hC : Keeps C) {B : Nat} {w w' : World} {v : Value} {xs : List α} (h : RowT n C B w v xs) (k : Kp B w w') : RowT n C B w' v xs := by
 refine ⟨h.shape, fun ao len cap hv hp => ?_, h.nil⟩
 obtain ⟨b, off, rfl, hb, hB, hc⟩ := h.cells ao len cap hv hp
 refine ⟨b, off, rfl, hb, Nat.le_trans hB k.size, fun i hi => ?_⟩
 obtain ⟨cs, hl, hr, hx⟩ := hc i hi
 exact ⟨cs, hl, rangeAt_keep hr hb hB k, hC hx k⟩
abbrev okS (s : Str) : Prop := s.size ≤ maxLen
def StrC (_ : Nat) (_ : World) (cs : List Value) (x : Str) : Prop := cs = [.string x] ∧ okS x
def SetC (_ : Nat) (_ : World) (cs : List Value) (x : SetD) : Prop := cs = [.string x.name, .string x.value] ∧ okS x.name ∧ okS x.value
theorem StrC.keep : Keeps StrC := fun _ _ _ _ _ h _ => h
theorem SetC.keep : Keeps SetC := fun _ _ _ _ _ h _ => h
def Lifts {α : Type} (C : Nat → World → List Value → α → Prop) : Prop := ∀ ⦃B B' : Nat⦄ ⦃w : World⦄ ⦃cs : List Value⦄ ⦃x : α⦄, C B w cs x → B ≤ B' → B' ≤ w.heap.size → C B' w cs x
theorem RowT.lift {α : Type} {n : Nat} {C : Nat → World → List Value → α → Prop} (hC : Lifts C) {B B' : Nat} {w : World} {v : Value} {xs : List α} (h : RowT n C B w v xs) (h1 : B ≤ B') (h2 : B' ≤ w.heap.size) : RowT n C B' w v xs := by
 refine ⟨h.shape, fun ao len cap hv hp => ?_, h.nil⟩
 obtain ⟨b, off, rfl, hb, hB, hc⟩ := h.cells ao len cap hv hp
 refine ⟨b, off, rfl, by omega, h2, fun i hi => ?_⟩
 obtain ⟨cs, hl, hr, hx⟩ := hc i hi
 exact ⟨cs, hl, hr, hC hx h1 h2⟩
theorem StrC.lift : Lifts StrC := fun _ _ _ _ _ h _ _ => h
theorem SetC.lift : Lifts SetC := fun _ _ _ _ _ h _ _ => h
end Go.Proofs.YtmlfchjompfmaaaDoor

/- Recipes and requests as plain data, and how they lie in memory, for reading: rows of structs. -/
import Derived.Test.YtmlfchjompfmaaaGreatDoorBase
import Derived.Deep.MidRow
set_option linter.unusedVariables false
namespace Go.Proofs.YtmlfchjompfmaaaGreatDoor
open Go.RowKit
abbrev Str := ByteArray
structure SpanD where
 lo : Str
 hi : Str
structure SetD where
 name : Str
 value : Str
structure SpecD where
 name : Str
 spans : List SpanD
 sets : List SetD
structure RelD where
 version : Str
 old : Bool
structure VarD where
 name : Str
 values : List Str
structure DepD where
 on : SpecD
 cond : SpecD
 line : Int
structure ConD where
 cond : SpecD
 with' : SpecD
 line : Int
structure PackD where
 name : Str
 line : Int
 rels : List RelD
 vars : List VarD
 provides : List Str
 deps : List DepD
 cons : List ConD
 files : List Str
structure PrefD where
 virtual : Str
 names : List Str
 line : Int
structure RecD where
 packs : List PackD
 prefs : List PrefD
structure RootD where
 spec : SpecD
 line : Int
structure ReqD where
 roots : List RootD
instance : Inhabited SpanD := ⟨⟨.empty, .empty⟩⟩
instance : Inhabited SetD := ⟨⟨.empty, .empty⟩⟩
instance : Inhabited SpecD := ⟨⟨.empty, [], []⟩⟩
instance : Inhabited RelD := ⟨⟨.empty, false⟩⟩
instance : Inhabited VarD := ⟨⟨.empty, []⟩⟩
instance : Inhabited DepD := ⟨⟨default, default, 0⟩⟩
instance : Inhabited ConD := ⟨⟨default, default, 0⟩⟩
instance : Inhabited PackD := ⟨⟨.empty, 0, [], [], [], [], [], []⟩⟩
instance : Inhabited PrefD := ⟨⟨.empty, [], 0⟩⟩
instance : Inhabited RecD := ⟨⟨[], []⟩⟩
instance : Inhabited RootD := ⟨⟨default, 0⟩⟩
instance : Inhabited ReqD := ⟨⟨[]⟩⟩
abbrev Kp (B : Nat) (w w' : World) : Prop := Only (fun k => B ≤ k) w w'
theorem Kp.of0 {B : Nat} {w w' : World} (h : Only (fun _ => False) w w') : Kp B w w' := h.mono fun _ f => f.elim
structure RowT {α : Type} (n : Nat) (C : Nat → World → List Value → α → Prop) (B : Nat) (w : World) (v : Value) (xs : List α) : Prop where
 shape : ∃ ao cap, v = .slice ao xs.length cap ∧ xs.length ≤ cap ∧ cap ≤ 9223372036854775807
 cells : ∀ ao len cap, v = .slice ao len cap → 0 < xs.length → ∃ b off, ao = some ⟨b, off, none⟩ ∧ b < B ∧ B ≤ w.heap.size ∧ ∀ i (h : i < xs.length), ∃ cs, cs.length = n ∧ w.rangeAt b (off + i * n) cs ∧ C B w cs xs[i]
 nil : ∀ len cap, v = .slice none len cap → len = 0 ∧ cap = 0
def Keeps {α : Type} (C : Nat → World → List Value → α → Prop) : Prop := ∀ ⦃B : Nat⦄ ⦃w w' : World⦄ ⦃cs : List Value⦄ ⦃x : α⦄, C B w cs x → Kp B w w' → C B w' cs x
theorem rangeAt_keep {B b o : Nat} {w w' : World} {cs : List Value} (h : w.rangeAt b o cs) (hb : b < B) (hB : B ≤ w.heap.size) (k : Kp B w w') : w'.rangeAt b o cs := by
 intro j u hu
 rw [World.cell?_of_block (w := w) (k.block b (by omega) (by omega))]
 exact h j u hu
theorem RowT.keep {α : Type} {n : Nat} {C : Nat → World → List Value → α → Prop} (hC : Keeps C) {B : Nat} {w w' : World} {v : Value} {xs : List α} (h : RowT n C B w v xs) (k : Kp B w w') : RowT n C B w' v xs := by
 refine ⟨h.shape, fun ao len cap hv hp => ?_, h.nil⟩
 obtain ⟨b, off, rfl, hb, hB, hc⟩ := h.cells ao len cap hv hp
 refine ⟨b, off, rfl, hb, Nat.le_trans hB k.size, fun i hi => ?_⟩
 obtain ⟨cs, hl, hr, hx⟩ := hc i hi
 exact ⟨cs, hl, rangeAt_keep hr hb hB k, hC hx k⟩
theorem RowT.nilRow {α : Type} {n : Nat} {C : Nat → World → List Value → α → Prop} {B : Nat} {w : World} : RowT n C B w nilS ([] : List α) :=
 ⟨⟨none, 0, rfl, Nat.le_refl _, by decide⟩, fun _ _ _ _ hp => by simp at hp, fun len cap hv => by simp at hv; omega⟩
abbrev okS (s : Str) : Prop := s.size ≤ maxLen
def StrC (_ : Nat) (_ : World) (cs : List Value) (x : Str) : Prop := cs = [.string x] ∧ okS x
def SpanC (_ : Nat) (_ : World) (cs : List Value) (x : SpanD) : Prop := cs = [.string x.lo, .string x.hi] ∧ okS x.lo ∧ okS x.hi
def SetC (_ : Nat) (_ : World) (cs : List Value) (x : SetD) : Prop := cs = [.string x.name, .string x.value] ∧ okS x.name ∧ okS x.value
def RelC (_ : Nat) (_ : World) (cs : List Value) (x : RelD) : Prop := cs = [.string x.version, .bool x.old] ∧ okS x.version
def SpecC (B : Nat) (w : World) (cs : List Value) (x : SpecD) : Prop := ∃ v1 v2, cs = [.string x.name, v1, v2] ∧ okS x.name ∧ RowT 2 SpanC B w v1 x.spans ∧ RowT 2 SetC B w v2 x.sets
def VarC (B : Nat) (w : World) (cs : List Value) (x : VarD) : Prop := ∃ v1, cs = [.string x.name, v1] ∧ okS x.name ∧ RowT 1 StrC B w v1 x.values
def DepC (B : Nat) (w : World) (cs : List Value) (x : DepD) : Prop := ∃ c1 c2, cs = c1 ++ c2 ++ [.int .i64 x.line] ∧ SpecC B w c1 x.on ∧ SpecC B w c2 x.cond ∧ InI64 x.line
def ConC (B : Nat) (w : World) (cs : List Value) (x : ConD) : Prop := ∃ c1 c2, cs = c1 ++ c2 ++ [.int .i64 x.line] ∧ SpecC B w c1 x.cond ∧ SpecC B w c2 x.with' ∧ InI64 x.line
def PackC (B : Nat) (w : World) (cs : List Value) (x : PackD) : Prop := ∃ v1 v2 v3 v4 v5 v6, cs = [.string x.name, .int .i64 x.line, v1, v2, v3, v4, v5, v6] ∧ okS x.name ∧ InI64 x.line ∧
 RowT 2 RelC B w v1 x.rels ∧ RowT 2 VarC B w v2 x.vars ∧ RowT 1 StrC B w v3 x.provides ∧ RowT 7 DepC B w v4 x.deps ∧ RowT 7 ConC B w v5 x.cons ∧ RowT 1 StrC B w v6 x.files
def PrefC (B : Nat) (w : World) (cs : List Value) (x : PrefD) : Prop := ∃ v1, cs = [.string x.virtual, v1, .int .i64 x.line] ∧ okS x.virtual ∧ InI64 x.line ∧ RowT 1 StrC B w v1 x.names
def RecC (B : Nat) (w : World) (cs : List Value) (x : RecD) : Prop := ∃ v1 v2, cs = [v1, v2] ∧ RowT 8 PackC B w v1 x.packs ∧ RowT 3 PrefC B w v2 x.prefs
def RootC (B : Nat) (w : World) (cs : List Value) (x : RootD) : Prop := ∃ c1, cs = c1 ++ [.int .i64 x.line] ∧ SpecC B w c1 x.spec ∧ InI64 x.line
def ReqC (B : Nat) (w : World) (cs : List Value) (x : ReqD) : Prop := ∃ v1, cs = [v1] ∧ RowT 4 RootC B w v1 x.roots
theorem StrC.keep : Keeps StrC := fun _ _ _ _ _ h _ => h
theorem SpanC.keep : Keeps SpanC := fun _ _ _ _ _ h _ => h
theorem SetC.keep : Keeps SetC := fun _ _ _ _ _ h _ => h
theorem RelC.keep : Keeps RelC := fun _ _ _ _ _ h _ => h
theorem SpecC.keep : Keeps SpecC := fun _ _ _ _ _ ⟨v1, v2, h, a, b, c⟩ k => ⟨v1, v2, h, a, b.keep SpanC.keep k, c.keep SetC.keep k⟩
theorem VarC.keep : Keeps VarC := fun _ _ _ _ _ ⟨v1, h, a, b⟩ k => ⟨v1, h, a, b.keep StrC.keep k⟩
theorem DepC.keep : Keeps DepC := fun _ _ _ _ _ ⟨c1, c2, h, a, b, c⟩ k => ⟨c1, c2, h, SpecC.keep a k, SpecC.keep b k, c⟩
theorem ConC.keep : Keeps ConC := fun _ _ _ _ _ ⟨c1, c2, h, a, b, c⟩ k => ⟨c1, c2, h, SpecC.keep a k, SpecC.keep b k, c⟩
theorem PackC.keep : Keeps PackC := fun _ _ _ _ _ ⟨v1, v2, v3, v4, v5, v6, h, a, b, c1, c2, c3, c4, c5, c6⟩ k =>
 ⟨v1, v2, v3, v4, v5, v6, h, a, b, c1.keep RelC.keep k, c2.keep VarC.keep k, c3.keep StrC.keep k, c4.keep DepC.keep k, c5.keep ConC.keep k, c6.keep StrC.keep k⟩
theorem PrefC.keep : Keeps PrefC := fun _ _ _ _ _ ⟨v1, h, a, b, c⟩ k => ⟨v1, h, a, b, c.keep StrC.keep k⟩
theorem RecC.keep : Keeps RecC := fun _ _ _ _ _ ⟨v1, v2, h, a, b⟩ k => ⟨v1, v2, h, a.keep PackC.keep k, b.keep PrefC.keep k⟩
theorem RootC.keep : Keeps RootC := fun _ _ _ _ _ ⟨c1, h, a, b⟩ k => ⟨c1, h, SpecC.keep a k, b⟩
def Lifts {α : Type} (C : Nat → World → List Value → α → Prop) : Prop := ∀ ⦃B B' : Nat⦄ ⦃w : World⦄ ⦃cs : List Value⦄ ⦃x : α⦄, C B w cs x → B ≤ B' → B' ≤ w.heap.size → C B' w cs x
theorem RowT.lift {α : Type} {n : Nat} {C : Nat → World → List Value → α → Prop} (hC : Lifts C) {B B' : Nat} {w : World} {v : Value} {xs : List α} (h : RowT n C B w v xs) (h1 : B ≤ B') (h2 : B' ≤ w.heap.size) : RowT n C B' w v xs := by
 refine ⟨h.shape, fun ao len cap hv hp => ?_, h.nil⟩
 obtain ⟨b, off, rfl, hb, hB, hc⟩ := h.cells ao len cap hv hp
 refine ⟨b, off, rfl, by omega, h2, fun i hi => ?_⟩
 obtain ⟨cs, hl, hr, hx⟩ := hc i hi
 exact ⟨cs, hl, hr, hC hx h1 h2⟩
theorem StrC.lift : Lifts StrC := fun _ _ _ _ _ h _ _ => h
theorem SpanC.lift : Lifts SpanC := fun _ _ _ _ _ h _ _ => h
theorem SetC.lift : Lifts SetC := fun _ _ _ _ _ h _ _ => h
theorem RelC.lift : Lifts RelC := fun _ _ _ _ _ h _ _ => h
theorem SpecC.lift : Lifts SpecC := fun _ _ _ _ _ ⟨v1, v2, h, a, b, c⟩ k l => ⟨v1, v2, h, a, b.lift SpanC.lift k l, c.lift SetC.lift k l⟩
theorem VarC.lift : Lifts VarC := fun _ _ _ _ _ ⟨v1, h, a, b⟩ k l => ⟨v1, h, a, b.lift StrC.lift k l⟩
theorem DepC.lift : Lifts DepC := fun _ _ _ _ _ ⟨c1, c2, h, a, b, c⟩ k l => ⟨c1, c2, h, SpecC.lift a k l, SpecC.lift b k l, c⟩
theorem ConC.lift : Lifts ConC := fun _ _ _ _ _ ⟨c1, c2, h, a, b, c⟩ k l => ⟨c1, c2, h, SpecC.lift a k l, SpecC.lift b k l, c⟩
theorem PackC.lift : Lifts PackC := fun _ _ _ _ _ ⟨v1, v2, v3, v4, v5, v6, h, a, b, c1, c2, c3, c4, c5, c6⟩ k l =>
 ⟨v1, v2, v3, v4, v5, v6, h, a, b, c1.lift RelC.lift k l, c2.lift VarC.lift k l, c3.lift StrC.lift k l, c4.lift DepC.lift k l, c5.lift ConC.lift k l, c6.lift StrC.lift k l⟩
theorem PrefC.lift : Lifts PrefC := fun _ _ _ _ _ ⟨v1, h, a, b, c⟩ k l => ⟨v1, h, a, b, c.lift StrC.lift k l⟩
theorem RecC.lift : Lifts RecC := fun _ _ _ _ _ ⟨v1, v2, h, a, b⟩ k l => ⟨v1, v2, h, a.lift PackC.lift k l, b.lift PrefC.lift k l⟩
section
variable {α : Type} {n : Nat} {C : Nat → World → List Value → α → Prop} {B : Nat} {w : World} {v : Value} {xs : List α}
theorem RowT.at {ao : Option Addr} {len cap : Nat} (h : RowT n C B w (.slice ao len cap) xs) (hp : 0 < xs.length) : ∃ b off, ao = some ⟨b, off, none⟩ ∧ b < B ∧ B ≤ w.heap.size :=
 let ⟨b, off, e, h1, h2, _⟩ := h.cells ao len cap rfl hp
 ⟨b, off, e, h1, h2⟩
theorem RowT.get {b off len cap : Nat} (h : RowT n C B w (.slice (some ⟨b, off, none⟩) len cap) xs) {i : Nat} {x : α} (hi : xs[i]? = some x) : ∃ cs, cs.length = n ∧ w.rangeAt b (off + i * n) cs ∧ C B w cs x := by
 obtain ⟨hlt, rfl⟩ := List.getElem?_eq_some_iff.1 hi
 obtain ⟨b', off', e, _, _, hc⟩ := h.cells _ _ _ rfl (by omega)
 simp only [Option.some.injEq, Addr.mk.injEq, and_true] at e
 obtain ⟨rfl, rfl⟩ := e
 exact hc i hlt
end
theorem PackC.cells {B : Nat} {w : World} {cs : List Value} {x : PackD} (h : PackC B w cs x) : ∃ o1 o2 o3 o4 o5 o6 c1 c2 c3 c4 c5 c6,
  cs = [.string x.name, .int .i64 x.line, .slice o1 x.rels.length c1, .slice o2 x.vars.length c2, .slice o3 x.provides.length c3, .slice o4 x.deps.length c4, .slice o5 x.cons.length c5, .slice o6 x.files.length c6] ∧ okS x.name ∧ InI64 x.line ∧
  RowT 2 RelC B w (.slice o1 x.rels.length c1) x.rels ∧ RowT 2 VarC B w (.slice o2 x.vars.length c2) x.vars ∧ RowT 1 StrC B w (.slice o3 x.provides.length c3) x.provides ∧ RowT 7 DepC B w (.slice o4 x.deps.length c4) x.deps ∧ RowT 7 ConC B w (.slice o5 x.cons.length c5) x.cons ∧ RowT 1 StrC B w (.slice o6 x.files.length c6) x.files := by
 obtain ⟨v1, v2, v3, v4, v5, v6, rfl, a, b, h1, h2, h3, h4, h5, h6⟩ := h
 obtain ⟨o1, c1, rfl, -, -⟩ := h1.shape
 obtain ⟨o2, c2, rfl, -, -⟩ := h2.shape
 obtain ⟨o3, c3, rfl, -, -⟩ := h3.shape
 obtain ⟨o4, c4, rfl, -, -⟩ := h4.shape
 obtain ⟨o5, c5, rfl, -, -⟩ := h5.shape
 obtain ⟨o6, c6, rfl, -, -⟩ := h6.shape
 exact ⟨o1, o2, o3, o4, o5, o6, c1, c2, c3, c4, c5, c6, rfl, a, b, h1, h2, h3, h4, h5, h6⟩
theorem SpecC.cells {B : Nat} {w : World} {cs : List Value} {x : SpecD} (h : SpecC B w cs x) : ∃ o1 o2 c1 c2,
  cs = [.string x.name, .slice o1 x.spans.length c1, .slice o2 x.sets.length c2] ∧ okS x.name ∧ RowT 2 SpanC B w (.slice o1 x.spans.length c1) x.spans ∧ RowT 2 SetC B w (.slice o2 x.sets.length c2) x.sets := by
 obtain ⟨v1, v2, rfl, a, h1, h2⟩ := h
 obtain ⟨o1, c1, rfl, -, -⟩ := h1.shape
 obtain ⟨o2, c2, rfl, -, -⟩ := h2.shape
 exact ⟨o1, o2, c1, c2, rfl, a, h1, h2⟩
end Go.Proofs.YtmlfchjompfmaaaGreatDoor

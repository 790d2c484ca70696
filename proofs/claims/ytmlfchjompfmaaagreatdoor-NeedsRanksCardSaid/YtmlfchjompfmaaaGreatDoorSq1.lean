/- A range over a function whose iterator keeps its state in cells of its own that lay ahead of the loop (strings.SplitSeq): what the iterator promises, and the loop's law. -/
import Derived.Test.YtmlfchjompfmaaaGreatDoorBase
import Derived.RangeFuncNested
import Derived.RangeFuncBound
import Derived.RangeFuncCalls
import Derived.RangeFuncLeaves
set_option linter.unusedVariables false
namespace Go.Proofs.YtmlfchjompfmaaaGreatDoor
open Go.RowKit
def OwnC (C : Nat → Prop) (W W' : World) : Prop := ∀ k, C k → W'.heap[k]? = W.heap[k]?
theorem OwnC.refl (C : Nat → Prop) (W : World) : OwnC C W W := fun _ _ => rfl
theorem OwnC.trans {C : Nat → Prop} {X Y Z : World} (h : OwnC C X Y) (k : OwnC C Y Z) : OwnC C X Z := fun i hi => (k i hi).trans (h i hi)
def AbC {β : Type} (C : Nat → Prop) (J : β → World → Prop) : Prop := ∀ s W W', J s W → Only C W W' → J s W'
def SeqC {α : Type} (F : Fence) (n : Nat) (P : Program) (g : Nat) (lb : Array Value) (enc : α → Value) (C : Nat → Prop) (xs : List α) (w : World) : Prop :=
 ∀ (l : Nat) (J Jx : List α → World → Prop) (W : World), OwnC C w W → w.heap.size ≤ W.heap.size → AbC C J → AbC C Jx →
  (∀ pre x suf W1, J pre W1 → xs = pre ++ x :: suf → YieldAt F (n - 1) P l #[enc x] W1 fun e W' =>
   (e = .returned (.bool true) ∧ J (pre ++ [x]) W' ∧ OwnC C W1 W' ∧ W1.heap.size ≤ W'.heap.size) ∨ (e = .returned (.bool false) ∧ Jx (pre ++ [x]) W')) →
  J [] W →
  CallsIn F n P g (#[.func (.yield l) #[] #[]] ++ lb) W fun e W' => (∃ v, e = .returned v) ∧ (J xs W' ∨ ∃ pre, pre <+: xs ∧ Jx pre W')
def seqPost {α : Type} (G : Nat → Prop) (I Ir : List α → World → Prop) (xs : List α) (W : World) : Exit → Act → World → Prop
 | .normal, _, W' => Only G W W' ∧ I xs W'
 | .ret, _, W' => Only G W W' ∧ Ir xs W'
 | .exit _, _, _ => False
 | .goto _, _, _ => False
 | .panic _, _, _ => False
 | .outgrown, _, _ => False
variable {F : Fence} {n : Nat} {P : Program}
theorem wpIn_seqC {α : Type} {g : Operand} {ps : Array Tmp} {assign body : Code} {Q : Exit → Act → World → Prop} {a : Act} {w : World}
  (hro : F.round = none) (h1 : 1 ≤ n) {gf : Nat} {lb : Array Value} (hg : a.eval g = .func (.func gf) #[] lb) (hFg : F.fn gf) (eg : ∀ args w, (callFunc gf args).run P w = .ok (.enter gf args) w)
  {enc : α → Value} {C : Nat → Prop} {xs : List α} {w0 : World} (hseq : SeqC F (n - 1) P gf lb enc C xs w0)
  (hC : ∀ k, C k → k < w.heap.size) (hw0 : OwnC C w0 w) (hsz : w0.heap.size ≤ w.heap.size) (hps : ps.size = 1)
  (G : Nat → Prop) (hG : ∀ k, G k → ¬ C k ∧ k ≠ w.heap.size ∧ k ≠ w.heap.size + 1)
  (I Ir : List α → World → Prop)
  (hI : ∀ s W W', I s W → Only (fun k => C k ∨ k = w.heap.size ∨ k = w.heap.size + 1) W W' → I s W')
  (hIr : ∀ s W W', Ir s W → Only (fun k => C k ∨ k = w.heap.size ∨ k = w.heap.size + 1) W W' → Ir s W')
  (h0 : I [] w) (a₁ : α → Act)
  (hassign : ∀ (l : Nat) (x : α) (W : World) (K : Act → World → Prop), K (a₁ x) W →
   assign.wpIn (F.inRound l) (n - 1 - 1) P (Exit.then K (fun _ _ _ => False)) { tmps := (ps.zip #[enc x]).foldl (fun t (p, v) => t.setIfInBounds p v) a.tmps, defers := [] } W)
  (hbody : ∀ (l : Nat) (pre : List α) (x : α) (suf : List α) (W : World), w.heap.size + 2 ≤ W.heap.size → I pre W → xs = pre ++ x :: suf → body.wpIn (F.inRound l) (n - 1 - 1) P (seqPost G I Ir (pre ++ [x]) W) (a₁ x) W)
  (hdone : ∀ (W : World), I xs W → W.heap[w.heap.size]? = some (.deferred (some [])) → Q .normal { a with defers := { target := .collected w.heap.size, args := #[] } :: a.defers } W)
  (hstop : ∀ (pre : List α) (W : World), pre <+: xs → Ir pre W → W.heap[w.heap.size]? = some (.deferred (some [])) → Code.ret.wpIn F n P Q { a with defers := { target := .collected w.heap.size, args := #[] } :: a.defers } W) :
  (Code.rangeFunc g ps assign body).wpIn F n P Q a w := by
 refine wpIn_rangeFunc ?_
 intro fn hfn
 rw [hro]
 obtain ⟨rec, hrec⟩ : ∃ rec : LoopState → Option Code → Loop, rec = fun st pe => { state := st, pending := pe, fn, tmps := a.tmps, params := ps, assign, body, defers := w.heap.size } := ⟨_, rfl⟩
 obtain ⟨W1, hW1⟩ : ∃ W1, (w.alloc (.deferred (some []))).alloc (.loop (rec .ready none)) = W1 := ⟨_, rfl⟩
 have hL1 : W1.heap[w.heap.size + 1]? = some (.loop (rec .ready none)) := by
  rw [← hW1]; have := World.alloc_heap_new (w.alloc (.deferred (some []))) (.loop (rec .ready none)); rwa [World.size_alloc] at this
 have hK1 : W1.heap[w.heap.size]? = some (.deferred (some [])) := by
  rw [← hW1]; exact (Below.heap_alloc _ _ _ (by simp)).trans (World.alloc_heap_new w _)
 have hO1 : Only (fun _ => False) w W1 := by rw [← hW1]; exact ((Only.refl _ w).alloc _).alloc _
 have hS1 : W1.heap.size = w.heap.size + 2 := by rw [← hW1]; simp
 have hput : ∀ (W : World) (o : Obj), Only (fun k => C k ∨ k = w.heap.size ∨ k = w.heap.size + 1) W (W.putObj (w.heap.size + 1) o) := fun W o =>
  ⟨rfl, rfl, rfl, by simp, fun k _ hn => World.putObj_heap_other (fun e => hn (.inr (.inr e)))⟩
 have hcw : ∀ {W W' : World}, Only C W W' → Only (fun k => C k ∨ k = w.heap.size ∨ k = w.heap.size + 1) W W' := fun h => h.mono fun _ hk => .inl hk
 have hnc : ∀ k, w.heap.size ≤ k → ¬ C k := fun k hk hc => by have := hC k hc; omega
 refine ⟨w.heap.size + 1, [{ target := .collected w.heap.size, args := #[] }], W1, { target := .fn (.func gf) lb, args := #[.func (.yield (w.heap.size + 1)) #[] #[]] }, W1, gf,
  #[.func (.yield (w.heap.size + 1)) #[] #[]] ++ lb, W1, ?_, ?_, ?_, ?_, fun _ => h1, ?_⟩
 ·rw [← hW1, hrec]; exact run_enterLoop_outer _ _ _ _ _
 ·simp only [resolve, hg]
  simp [go_sem]
 ·intro f' hf'; simp [Target.leads] at hf'; subst hf'; exact hFg
 ·simp [invoke, go_sem, eg]
 ·refine (hseq (w.heap.size + 1)
   (fun pre W => I pre W ∧ W.heap[w.heap.size + 1]? = some (.loop (rec .ready none)) ∧ W.heap[w.heap.size]? = some (.deferred (some [])))
   (fun pre W => Ir pre W ∧ W.heap[w.heap.size + 1]? = some (.loop (rec .done (some .ret))) ∧ W.heap[w.heap.size]? = some (.deferred (some [])))
   W1 (hw0.trans fun k hk => hO1.block k (hC k hk) (fun f => f)) (Nat.le_trans hsz hO1.size)
   (fun s A B hs ho => ⟨hI s A B hs.1 (hcw ho), (ho.block _ (Array.getElem?_eq_some_iff.1 hs.2.1).1 (hnc _ (by omega))).trans hs.2.1, (ho.block _ (Array.getElem?_eq_some_iff.1 hs.2.2).1 (hnc _ (by omega))).trans hs.2.2⟩)
   (fun s A B hs ho => ⟨hIr s A B hs.1 (hcw ho), (ho.block _ (Array.getElem?_eq_some_iff.1 hs.2.1).1 (hnc _ (by omega))).trans hs.2.1, (ho.block _ (Array.getElem?_eq_some_iff.1 hs.2.2).1 (hnc _ (by omega))).trans hs.2.2⟩)
   ?_ ⟨hI [] w W1 h0 (hO1.mono fun _ f => f.elim), hL1, hK1⟩).mono ?_
  ·rintro pre x suf W ⟨hi, hl, hk⟩ hx
   have hlt : w.heap.size + 1 < W.heap.size := (Array.getElem?_eq_some_iff.1 hl).1
   have hy := run_yield (P := P) (args := #[enc x]) hl (by rw [hrec]; exact hps.symm)
   rw [hrec] at hy
   refine ⟨fn, _, assign, body, hy, roundIn_of_wpIn hfn (hassign _ x W _ ⟨_, run_beginRound hl (by rw [hrec]), ?_⟩)⟩
   obtain ⟨Wb, hWb⟩ : ∃ Wb, W.putObj (w.heap.size + 1) (.loop { rec .ready none with state := .busy }) = Wb := ⟨_, rfl⟩
   rw [hWb]
   have hl2 : Wb.heap[w.heap.size + 1]? = some (.loop { rec .ready none with state := .busy }) := by rw [← hWb]; exact World.putObj_heap_same hlt
   have hk2 : Wb.heap[w.heap.size]? = some (.deferred (some [])) := by rw [← hWb]; exact (World.putObj_heap_other (by omega)).trans hk
   have hsb : Wb.heap.size = W.heap.size := by rw [← hWb]; simp
   have hib : I pre Wb := by rw [← hWb]; exact hI _ _ _ hi (hput _ _)
   have hcb : OwnC C W Wb := fun k hc => by rw [← hWb]; exact World.putObj_heap_other (by have := hC k hc; omega)
   refine wpIn_mono (hbody _ pre x suf _ (by omega) hib hx) ?_
   have fin : ∀ (jump : Option Code) (W3 : World), Only G Wb W3 →
     (Instr.endRound (w.heap.size + 1) jump).run P W3 = .ok (.bool jump.isNone) (W3.putObj (w.heap.size + 1) (.loop (rec (if jump.isNone then .ready else .done) jump))) ∧
     (W3.putObj (w.heap.size + 1) (.loop (rec (if jump.isNone then .ready else .done) jump))).heap[w.heap.size + 1]? = some (.loop (rec (if jump.isNone then .ready else .done) jump)) ∧
     (W3.putObj (w.heap.size + 1) (.loop (rec (if jump.isNone then .ready else .done) jump))).heap[w.heap.size]? = some (.deferred (some [])) ∧
     OwnC C Wb (W3.putObj (w.heap.size + 1) (.loop (rec (if jump.isNone then .ready else .done) jump))) := fun jump W3 ho => by
    have hl3 := (ho.block _ (by omega) (fun g => (hG _ g).2.2 rfl)).trans hl2
    have hk3 := (ho.block _ (by omega) (fun g => (hG _ g).2.1 rfl)).trans hk2
    have := run_endRound (P := P) jump hl3
    rw [hrec] at this ⊢
    exact ⟨this, World.putObj_heap_same (Array.getElem?_eq_some_iff.1 hl3).1, (World.putObj_heap_other (by omega)).trans hk3,
     fun k hc => (World.putObj_heap_other (by have := hC k hc; omega)).trans (ho.block k (by have := hC k hc; omega) (fun g => (hG k g).1 hc))⟩
   rintro e a3 W3 hp
   cases e with
   | normal =>
    obtain ⟨ho3, hi3⟩ := hp
    obtain ⟨hr, hl4, hk4, hc4⟩ := fin none W3 ho3
    exact ⟨_, _, hr, .inl ⟨rfl, ⟨hI _ _ _ hi3 (hput _ _), hl4, hk4⟩, hcb.trans hc4, by simp; have := ho3.size; omega⟩⟩
   | ret =>
    obtain ⟨ho3, hi3⟩ := hp
    obtain ⟨hr, hl4, hk4, hc4⟩ := fin (some .ret) W3 ho3
    exact ⟨_, _, hr, .inr ⟨rfl, hIr _ _ _ hi3 (hput _ _), hl4, hk4⟩⟩
   | exit id => exact hp.elim
   | goto t => exact hp.elim
   | panic ch => exact hp.elim
   | outgrown => exact hp.elim
  ·rintro e W2 ⟨⟨v, rfl⟩, (⟨hi, hl, hk⟩ | ⟨pre, hSp, hi, hl, hk⟩)⟩
   ·exact ⟨none, _, by have := run_endLoop (P := P) hl (by rw [hrec]; simp); rw [hrec] at this; exact this, hdone _ (hI _ _ _ hi (hput _ _)) ((World.putObj_heap_other (by omega)).trans hk)⟩
   ·exact ⟨some .ret, _, by have := run_endLoop (P := P) hl (by rw [hrec]; simp); rw [hrec] at this; exact this, hstop pre _ hSp (hIr _ _ _ hi (hput _ _)) ((World.putObj_heap_other (by omega)).trans hk)⟩
end Go.Proofs.YtmlfchjompfmaaaGreatDoor

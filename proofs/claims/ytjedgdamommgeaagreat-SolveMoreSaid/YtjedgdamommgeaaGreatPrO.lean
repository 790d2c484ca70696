/- PropO PropH, in one text. -/
import Derived.Test.YtjedgdamommgeaaGreatPrD
import Derived.Test.YtjedgdamommgeaaGreatPrE
import Derived.Test.YtjedgdamommgeaaGreatPrP
import Derived.Test.YtjedgdamommgeaaGreatCnfA
set_option linter.unusedVariables false
namespace Go.Proofs.YtjedgdamommgeaaGreat
open Go.RowKit
open Tr
namespace Tr
def Trail.addX (T : Trail) (xs : List Int) : Trail :=
 match Cnf.form xs with
 | some f => if f.all T.is then T.add f else T
 | none => T
def Trail.addR (T : Trail) (xs : List Int) : Int :=
 match Cnf.form xs with
 | some f => if f.all T.is then (T.cls.length : Int) else -1
 | none => -1
theorem form_good {n : Nat} {xs f : List Int} (hr : ∀ x ∈ xs, InI64 x) (h : Cnf.form xs = some f) (hf : ∀ x ∈ f, x ≠ 0 ∧ x.natAbs ≤ n) : Up.Good n f := by
 have hm : ∀ y, y ∈ f → y ∈ xs := by
  intro y hy
  unfold Cnf.form at h
  split at h
  ·cases h
  ·split at h
   ·cases h
   ·simp at h; subst h; exact (Cnf.mem_formL xs y).1 hy
 refine ⟨hf, ?_⟩
 have hlit : ∀ x ∈ f, Cnf.Lit x := fun x hx => by
  refine ⟨hr x (hm x hx), ?_⟩
  unfold Cnf.form at h
  split at h
  ·cases h
  ·rename_i hw
   rw [Bool.not_eq_true, List.any_eq_false] at hw
   have := hw x (hm x hx)
   simpa using this
 unfold Cnf.form at h
 split at h
 ·cases h
 ·split at h
  ·cases h
  ·rename_i hcl
   simp at h; subst h
   have hs := Cnf.formL_strict xs
   unfold Cnf.Strict at hs
   have habs : Cnf.AbsStrict (Cnf.formL xs) := by
    unfold Cnf.AbsStrict
    rw [List.pairwise_iff_getElem] at hs ⊢
    have step : ∀ i (hi : i + 1 < (Cnf.formL xs).length), ((Cnf.formL xs)[i]).natAbs < ((Cnf.formL xs)[i + 1]).natAbs := by
     intro i hi
     have h1 := hs i (i + 1) (by omega) hi (by omega)
     have l1 := hlit _ (List.getElem_mem (show i < (Cnf.formL xs).length by omega))
     have l2 := hlit _ (List.getElem_mem hi)
     rw [Cnf.lt_iff, l1.abs, l2.abs] at h1
     rcases h1 with h1 | ⟨h1, h2⟩
     ·omega
     ·exfalso
      apply hcl
      unfold Cnf.clash
      rw [List.any_eq_true]
      refine ⟨i + 1, by simpa using hi, ?_⟩
      have e1 : (Cnf.formL xs).getD (i + 1) 0 = (Cnf.formL xs)[i + 1] := by simp [List.getD_eq_getElem?_getD, hi]
      have e2 : (Cnf.formL xs).getD (i + 1 - 1) 0 = (Cnf.formL xs)[i] := by simp [List.getD_eq_getElem?_getD, show i < (Cnf.formL xs).length by omega]
      rw [e1, e2, l1.wrap]
      simp
      omega
    intro i j hi hj hij
    clear hs
    obtain ⟨d, rfl⟩ : ∃ d, j = i + 1 + d := ⟨j - (i + 1), by omega⟩
    clear hij
    induction d with
    | zero => exact step i hj
    | succ d ih => exact Nat.lt_trans (ih (by omega)) (step (i + 1 + d) hj)
   unfold List.Nodup
   rw [List.pairwise_map]
   exact habs.imp fun h => Nat.ne_of_lt h
theorem is_iff {T : Trail} {x : Int} : T.is x = true ↔ x ≠ 0 ∧ x.natAbs ≤ T.n := decide_eq_true_iff
end Tr
section
variable {w : World} {g : Tag} {b : Nat} {V : TrV} {T : Trail}
theorem TrTo.quiet (H : TrAt w g b V T) {w' : World} (ho : Only (fun _ => False) w w') : TrTo w g b T w' := ⟨g, V, H.only0 ho, Agree.refl _ _, ho.mono fun _ f => f.elim⟩
theorem prop_Add_any (H : TrAt w g b V T) (I : Inv T) (hcb : T.cls.length < 2147483648) {v : Value} {xs : List Int} (hI : Ints w v xs) (hb : xs.length ≤ 17592186043904) :
  Calls Tryz.prog 46 #[.pointer (some ⟨b, 0, none⟩), v] w fun e w' => e = .returned (.int .i64 (T.addR xs)) ∧ TrTo w g b (T.addX xs) w' := by
 unfold Trail.addR Trail.addX
 cases hf : Cnf.form xs with
 | none =>
  exact (prop_Add_no H I.ok.n hI hb (.inl hf)).mono fun e w' ⟨he, ho⟩ => ⟨he, TrTo.quiet H ho⟩
 | some f =>
  have hm : ∀ y, y ∈ f → y ∈ xs := by
   intro y hy
   unfold Cnf.form at hf
   split at hf
   ·cases hf
   ·split at hf
    ·cases hf
    ·simp at hf; subst hf; exact (Cnf.mem_formL xs y).1 hy
  by_cases hall : f.all T.is = true
  ·simp only [hall, if_true]
   refine prop_Add_yes H I hcb hI hb hf (form_good hI.range hf fun x hx => ?_)
   rw [List.all_eq_true] at hall
   exact is_iff.1 (hall x hx)
  ·simp only [hall]
   refine (prop_Add_no H I.ok.n hI hb (.inr ⟨f, hf, fun x hx => hI.range x (hm x hx), ?_⟩)).mono fun e w' ⟨he, ho⟩ => ⟨he, TrTo.quiet H ho⟩
   rw [List.all_eq_true] at hall
   rw [List.any_eq_true]
   by_cases h : ∃ x ∈ f, T.is x = false
   ·obtain ⟨x, hx, e⟩ := h; exact ⟨x, hx, by rw [e]; rfl⟩
   ·refine absurd (fun x hx => ?_) hall
    cases e : T.is x
    ·exact absurd ⟨x, hx, e⟩ h
    ·rfl
theorem prop_Back_any (H : TrAt w g b V T) (I : Inv T) (x : Int) (hx : InI64 x) :
  Calls Tryz.prog 64 #[.pointer (some ⟨b, 0, none⟩), .int .i64 x] w fun e w' => e = .returned (.tuple #[]) ∧ TrTo w g b (T.back x) w' := by
 have hs := I.shortl
 have hc := I.ok.cb
 unfold Trail.back
 split
 ·rename_i h; exact prop_Back_go H I.ok (by omega) x x.toNat (by omega) h
 ·rename_i h; exact prop_Back_stay H x x.toNat (by omega) h
end
theorem ints_blk {w : World} {b : Nat} {xs : List Int} {t : TypeId} {f : Nat × Nat} (h : w.heap[b]? = some (.cells (xs.map cI).toArray t f)) (hr : ∀ x ∈ xs, InI64 x) (hl : xs.length ≤ 9223372036854775807) : Ints w (.slice (some ⟨b, 0, none⟩) xs.length xs.length) xs := by
 refine ⟨⟨_, _, rfl, Nat.le_refl _, hl⟩, fun ao len cap hv hp => ?_, hr, fun len cap hv => by simp at hv⟩
 simp only [Value.slice.injEq] at hv
 obtain ⟨rfl, rfl, rfl⟩ := hv
 refine ⟨b, 0, rfl, lt_block h, fun i hi => ?_⟩
 rw [cell_block h]
 simp [List.getD_eq_getElem?_getD, hi]
theorem ints_mk (w : World) (xs : List Int) (t : TypeId) (n : Nat) (hn : n = w.heap.size) (hr : ∀ x ∈ xs, InI64 x) (hl : xs.length ≤ 9223372036854775807) : Ints (w.alloc (.cells (xs.map cI).toArray t)) (.slice (some ⟨n, 0, none⟩) xs.length xs.length) xs := by
 subst hn
 exact ints_blk (heap_alloc_new w _) hr hl
theorem take_snocC {α : Type} (xs : List α) (d : α) (k : Nat) (h : k < xs.length) : xs.take (k + 1) = xs.take k ++ [xs.getD k d] := by
 rw [List.take_succ_eq_append_getElem h]
 simp [List.getD_eq_getElem?_getD, h]
namespace Tr
theorem addX_form {T : Trail} {xs f : List Int} (h : Cnf.form xs = some f) (ha : ∀ x ∈ f, x ≠ 0 ∧ x.natAbs ≤ T.n) : T.addX xs = T.add f := by
 unfold Trail.addX
 rw [h]
 have : f.all T.is = true := List.all_eq_true.2 fun x hx => is_iff.2 (ha x hx)
 simp only [this, if_true]
theorem lit_of {x : Int} (h0 : x ≠ 0) (h1 : x.natAbs ≤ 65536) : Cnf.Lit x := by
 refine ⟨by unfold InI64; omega, ?_⟩
 unfold Cnf.wr Cnf.minI
 simp only [Bool.or_eq_false_iff, beq_eq_false_iff_ne]
 omega
theorem form_self {xs : List Int} (hx : ∀ x ∈ xs, x ≠ 0 ∧ x.natAbs ≤ 65536) (ha : Cnf.AbsStrict xs) : Cnf.form xs = some xs :=
 Cnf.form_some (fun x h => lit_of (hx x h).1 (hx x h).2) ha (fun _ => Iff.rfl)
theorem addX_cases (T : Trail) (xs : List Int) : (∃ f, Cnf.form xs = some f ∧ (∀ x ∈ f, x ≠ 0 ∧ x.natAbs ≤ T.n) ∧ T.addX xs = T.add f) ∨ ((∀ f, Cnf.form xs = some f → ¬ ∀ x ∈ f, x ≠ 0 ∧ x.natAbs ≤ T.n) ∧ T.addX xs = T) := by
 cases hf : Cnf.form xs with
 | none => exact .inr ⟨(fun f h => by cases h), (by unfold Trail.addX; rw [hf])⟩
 | some f =>
  by_cases h : ∀ x ∈ f, x ≠ 0 ∧ x.natAbs ≤ T.n
  ·exact .inl ⟨f, rfl, h, addX_form hf h⟩
  ·refine .inr ⟨fun f' h' => by obtain rfl := Option.some.inj h'; exact h, ?_⟩
   unfold Trail.addX
   rw [hf]
   have : f.all T.is = false := by
    rw [← Bool.not_eq_true, List.all_eq_true]
    exact fun h2 => h fun x hx => is_iff.1 (h2 x hx)
   simp only [this]; rfl
theorem addX_ents (T : Trail) (c : List Int) : (T.addX c).ents = T.ents ∧ (T.addX c).levels = T.levels := by
 rcases addX_cases T c with ⟨f, _, _, h⟩ | ⟨_, h⟩ <;> rw [h] <;> exact ⟨rfl, rfl⟩
end Tr
end Go.Proofs.YtjedgdamommgeaaGreat

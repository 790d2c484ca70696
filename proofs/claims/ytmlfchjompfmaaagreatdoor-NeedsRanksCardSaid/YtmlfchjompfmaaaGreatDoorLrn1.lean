/- Maps from int to int that a call makes: what they hold, in plain words. -/
import Derived.Test.YtmlfchjompfmaaaGreatDoorBase
import Derived.Maps.OwnSet
import Derived.Maps.OwnOps
import Derived.Lib.SlKeysI
set_option linter.unusedVariables false
namespace Go.Proofs.YtmlfchjompfmaaaGreatDoor
open Go.RowKit
theorem inZ : InI64 0 := ⟨by decide, by decide⟩
theorem lawInt : Maps.Keyed Tryz.prog 3 := Maps.int_keyed Tryz.underlying3
theorem zeroInt (w : World) : (zeroValue 3).run Tryz.prog w = .ok (.int .i64 0) w := by kernel_rfl
abbrev kI (x : Int) : Lit := .int .i64 x
theorem wfI {x : Int} (hx : InI64 x) : (kI x).wf = true := WalkArith.wf_i64 hx
theorem keyI {x : Int} (hx : InI64 x) : keyOf Tryz.prog 3 (cI x) = some (kI x) := Maps.keyOf_int_mk Tryz.underlying3 (wfI hx)
theorem kI_ne {x y : Int} (h : y ≠ x) : kI y ≠ kI x := fun e => h (by injection e)
structure IMap (w : World) (B : Nat) (ks : List Int) (f : Int → Int) : Prop where
 own : ∃ D : DataW Unit, w.ownsMap Tryz.prog 3 (plainElem Tryz.prog 3) B ks.length D ∧ (∀ x, D.atKey (kI x) (.lit (kI 0)) = .lit (kI (f x))) ∧ (∀ x, Maps.has D (kI x) = decide (x ∈ ks)) ∧ Maps.size D = ks.length
 nd : ks.Nodup
 out : ∀ x, x ∉ ks → f x = 0
 val : ∀ x, InI64 (f x)
 rng : ∀ x ∈ ks, InI64 x
def addK (ks : List Int) (x : Int) : List Int := if x ∈ ks then ks else ks ++ [x]
def upd (f : Int → Int) (x v : Int) : Int → Int := fun y => if y = x then v else f y
theorem mem_addK {ks : List Int} {x y : Int} : y ∈ addK ks x ↔ y ∈ ks ∨ y = x := by
 unfold addK; split
 ·rename_i h
  constructor
  ·exact .inl
  ·rintro (h1 | rfl)
   ·exact h1
   ·exact h
 ·simp
section
variable {w w' : World} {B : Nat} {ks : List Int} {f : Int → Int}
theorem IMap.lt (h : IMap w B ks f) : B < w.heap.size := by obtain ⟨D, h1, _⟩ := h.own; exact h1.lt
theorem IMap.only {F : Nat → Prop} (h : IMap w B ks f) (ho : Only F w w') (hF : ¬ F B) : IMap w' B ks f := by
 have hlt := h.lt
 obtain ⟨D, ⟨es, clock, hb, Ft, hs, hD⟩, h2⟩ := h.own
 exact ⟨⟨D, ⟨es, clock, (ho.block B hlt hF).trans hb, Ft, hs, hD⟩, h2⟩, h.nd, h.out, h.val, h.rng⟩
theorem IMap.only0 (h : IMap w B ks f) (ho : Only (fun _ => False) w w') : IMap w' B ks f := h.only ho (fun f => f)
theorem IMap.made (w : World) : IMap (w.alloc (.map #[] 0)) w.heap.size [] (fun _ => 0) :=
 ⟨⟨.map [], World.ownsMap_made _ _ _ _, fun x => rfl, fun x => by simp [Maps.has], rfl⟩, List.nodup_nil, fun _ _ => rfl, fun _ => inZ, fun x hx => by cases hx⟩
theorem IMap.look (h : IMap w B ks f) {x : Int} (hx : InI64 x) : (Instr.lookup 72 (.map (some B)) (cI x) false).run Tryz.prog w = .ok (cI (f x)) w := by
 obtain ⟨D, h1, h2, h3, h4⟩ := h.own
 obtain ⟨c, hrun, hat, _⟩ := h1.lookup_int lawInt Tryz.underlying72 Tryz.underlying3 (zeroInt _) (keyI hx)
 rw [h2] at hat
 have : f x = c := (Lit.int.inj (DataW.lit.inj hat)).2
 rw [this]; exact hrun
theorem turned_only {b : Nat} (h : w.mapTurned w' b) : Only (fun k => k = b) w w' :=
 (Only.refl _ w).grown h.grown fun k hk => .inl (Option.some.inj hk).symm
theorem IMap.store (h : IMap w B ks f) {x v : Int} (hx : InI64 x) (hv : InI64 v) (hl : ks.length < maxLen) :
  ∃ w', (Instr.mapUpdate 72 (.map (some B)) (cI x) (cI v)).run Tryz.prog w = .ok () w' ∧ IMap w' B (addK ks x) (upd f x v) ∧ Only (fun k => k = B) w w' := by
 obtain ⟨D, h1, h2, h3, h4⟩ := h.own
 have hkl : WideAt.IsKeyLit (kI x) := trivial
 obtain ⟨w', hrun, r1, r2⟩ := h1.store lawInt Tryz.underlying72 hl (keyI hx) (plainElem_int Tryz.underlying3 (wfI hv))
 have hsz : Maps.size (D.put (kI x) (.lit (kI v))) = (addK ks x).length := by
  rw [Maps.size_put (h1.tidy lawInt), h3, h4]
  unfold addK
  by_cases hm : x ∈ ks
  ·simp [hm]
  ·simp [hm]
 refine ⟨w', hrun, ⟨⟨_, ?_, fun y => ?_, fun y => ?_, hsz⟩, ?_, fun y hy => ?_, fun y => ?_, fun y hy => ?_⟩, turned_only r2⟩
 ·obtain ⟨es, clock, hb, Ft, hs, hD⟩ := r1
  refine ⟨es, clock, hb, Ft, ?_, hD⟩
  rw [← hsz, hD]
  simp [Maps.size, length_sorted]
 ·unfold upd
  by_cases e : y = x
  ·subst e; rw [if_pos rfl, Maps.atKey_put_same h1.isMap hkl]
  ·rw [if_neg e, Maps.atKey_put_other (kI_ne e), h2]
 ·by_cases e : y = x
  ·subst e; rw [Maps.has_put_same h1.isMap hkl, decide_eq_true (mem_addK.2 (.inr rfl))]
  ·rw [Maps.has_put_other (kI_ne e), h3]
   exact decide_eq_decide.2 (by rw [mem_addK]; simp [e])
 ·unfold addK
  split
  ·exact h.nd
  ·rename_i hn
   rw [List.nodup_append]
   exact ⟨h.nd, by simp, fun a ha b hb e => hn (by simp at hb; rw [← hb, ← e]; exact ha)⟩
 ·rw [mem_addK, not_or] at hy
  unfold upd
  rw [if_neg hy.2]; exact h.out y hy.1
 ·unfold upd; split
  ·exact hv
  ·exact h.val y
 ·rcases mem_addK.1 hy with h5 | rfl
  ·exact h.rng y h5
  ·exact hx
theorem IMap.keys (h : IMap w B ks f) : ∃ D : DataW Unit, w.ownsMap Tryz.prog 3 (plainElem Tryz.prog 3) B ks.length D ∧ ks.Perm (intKeys D) ∧ Maps.size D = ks.length := by
 obtain ⟨D, h1, h2, h3, h4⟩ := h.own
 refine ⟨D, h1, ?_, h4⟩
 obtain ⟨es, hD, hpw, _⟩ := h1.entries lawInt
 obtain ⟨es', hD', hko⟩ := h1.keysOf
 obtain rfl : es = es' := by rw [hD] at hD'; simpa using hD'
 subst hD
 exact perm_intKeys hpw (fun p hp => by obtain ⟨v, hv⟩ := hko p hp; obtain ⟨x, _, hx, _⟩ := Maps.keyOf_i64 Tryz.underlying3 hv; exact ⟨x, hx⟩) h.nd (fun x => by rw [h3 x]; simp)
end
end Go.Proofs.YtmlfchjompfmaaaGreatDoor

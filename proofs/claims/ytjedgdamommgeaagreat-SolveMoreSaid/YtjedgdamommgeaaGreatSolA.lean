/- Sol0 Sol1 Sol2 Sol3 Sol4 Sol5 Sol6 Sol7, in one text. -/
import Derived.Test.YtjedgdamommgeaaGreatHeapA
import Derived.Test.YtjedgdamommgeaaGreatBase
import Derived.Test.YtjedgdamommgeaaGreatLubA
import Derived.Test.YtjedgdamommgeaaGreatSvA
import Derived.Test.YtjedgdamommgeaaGreatPrO
set_option linter.unusedVariables false
namespace Go.Proofs.YtjedgdamommgeaaGreat
open Go.RowKit
namespace Hq.Hp
theorem set_new_ord (n : Nat) : HOrd (new n) := by
 intro j h0 hj
 have hj : j < n := by simpa [new] using hj
 have hat : ∀ i, i < n → (new n).at1 i = i := by
  intro i hi
  simp [new, at1, List.getD_eq_getElem?_getD, hi]
 unfold OrdAt
 rw [hat j hj, hat _ (by omega), ahead_not]
 have : ∀ i, (new n).S.getD i 0 = 0 := by
  intro i
  simp only [new, List.getD_eq_getElem?_getD, List.getElem?_replicate]
  split <;> rfl
 rw [this, this]
 omega
theorem set_new_has (n a : Nat) : (new n).has a ↔ a < n := by
 have hat : ∀ i, i < n → (new n).at1 i = i := by
  intro i hi
  simp [new, at1, List.getD_eq_getElem?_getD, hi]
 constructor
 ·rintro ⟨j, hj, rfl⟩
  have hj : j < n := by simpa [new] using hj
  rw [hat j hj]; exact hj
 ·intro h
  exact ⟨a, by simpa [new] using h, hat a h⟩
end Hq.Hp
theorem room_sum : ∀ (f : Nat) (h : Hq.Hp) (a y : Nat), h.Ok → y ≤ f → (Hq.Hp.room f h a y).1.sc a + (Hq.Hp.room f h a y).2 ≤ Hq.Hp.most
 | 0, h, a, y, o, hy => by
  have := o.sc_le a
  show h.sc a + y ≤ _
  omega
 | f + 1, h, a, y, o, hy => by
  unfold Hq.Hp.room
  split
  ·exact room_sum f h.halve a (y / 2) (Hq.Hp.halve_all h o).1 (by omega)
  ·rename_i hc
   simp only [Bool.or_eq_true, decide_eq_true_eq, not_or] at hc
   show h.sc a + y ≤ _
   omega
def HeapS (w : World) (bh n : Nat) (A F : Nat → Prop) : Prop :=
 ∃ vl va vs h, Hq.HeapAt w bh vl va vs h ∧ h.Ok ∧ Hq.Hp.HOrd h ∧ h.S.length = n ∧ (∀ a, A a ↔ h.has a) ∧ ∀ k, Hq.HFoot bh vl va vs k → F k
section
variable {w w' : World} {bh n : Nat} {A F G : Nat → Prop}
theorem HeapS.only (h : HeapS w bh n A F) (ho : Only G w w') (hF : ∀ k, F k → ¬ G k) : HeapS w' bh n A F := by
 obtain ⟨vl, va, vs, x, H, o, r, hn, hA, hf⟩ := h
 exact ⟨vl, va, vs, x, H.only ho (hF _ (hf _ (.inl rfl))) (fun k hk => hF _ (hf _ (.inr (.inl hk)))) (fun k hk => hF _ (hf _ (.inr (.inr (.inl hk))))) (fun k hk => hF _ (hf _ (.inr (.inr (.inr hk))))), o, r, hn, hA, hf⟩
theorem HeapS.lt (h : HeapS w bh n A F) {a : Nat} (ha : A a) : a < n := by
 obtain ⟨vl, va, vs, x, H, o, r, hn, hA, hf⟩ := h
 obtain ⟨j, hj, rfl⟩ := (hA a).1 ha
 rw [← hn]; exact o.lt hj
theorem HeapS.halve (h : HeapS w bh n A F) : Calls Tryz.prog 77 #[.pointer (some ⟨bh, 0, none⟩)] w fun e w' => e = .returned (.tuple #[]) ∧ HeapS w' bh n A F ∧ Only F w w' := by
 obtain ⟨vl, va, vs, x, H, o, r, hn, hA, hf⟩ := h
 obtain ⟨p1, p2, p3⟩ := Hq.Hp.halve_all x o
 refine (Hq.Halve_any H o).mono fun e w' ⟨he, H', ok', ho⟩ => ⟨he, ⟨vl, va, vs, _, H', ok', p2, ?_, fun a => by rw [p3, hA], hf⟩, ho.mono hf⟩
 rw [Hq.Hp.halve_S, List.length_map]; exact hn
theorem HeapS.bump (h : HeapS w bh n A F) {a : Nat} (ha : a < n) (y : Nat) (hy : y < 18446744073709551616) : Calls Tryz.prog 76 #[.pointer (some ⟨bh, 0, none⟩), .int .i64 ((a : Int) + 1), .int .u64 (y : Int)] w fun e w' => e = .returned (.tuple #[]) ∧ HeapS w' bh n A F ∧ Only F w w' := by
 obtain ⟨vl, va, vs, x, H, o, r, hn, hA, hf⟩ := h
 obtain ⟨p1, p2, p3, p4⟩ := Hq.Hp.bump_all x o r (a := a) (by omega) y (room_sum y x a y o (Nat.le_refl _))
 refine (Hq.Bump_any H o a (by omega) y hy _ _ rfl rfl).mono fun e w' ⟨he, H', ok', ho⟩ => ⟨he, ⟨vl, va, vs, _, H', ok', p2, ?_, fun b => by rw [p4, hA], hf⟩, ho.mono hf⟩
 rw [p3, List.length_set, (Hq.Hp.room_all y x o r a y).2.2.1]; exact hn
theorem HeapS.push (h : HeapS w bh n A F) {a : Nat} (ha : a < n) : Calls Tryz.prog 65 #[.pointer (some ⟨bh, 0, none⟩), .int .i64 ((a : Int) + 1)] w fun e w' => ∃ r, e = .returned (.bool r) ∧ HeapS w' bh n (fun x => A x ∨ x = a) (fun k => F k ∨ w.heap.size ≤ k) ∧ Only F w w' := by
 obtain ⟨vl, va, vs, x, H, o, r, hn, hA, hf⟩ := h
 by_cases hz : x.A.getD a 0 < 0
 ·obtain ⟨p1, p2, p3, p4, p5⟩ := Hq.Hp.push_all x o r (x := a) (by omega) hz
  refine (Hq.Push_any H o a (by omega) _ rfl hz).mono fun e w' ⟨he, ⟨vl', H', hf'⟩, ok', ho⟩ => ⟨_, he, ⟨vl', va, vs, _, H', ok', p2, by rw [p3]; exact hn, fun b => by rw [p5]; exact or_congr_left (hA b), fun k hk => ?_⟩, ho.mono hf⟩
  rcases hf' k hk with h | h
  ·exact .inl (hf k h)
  ·exact .inr h
 ·have hh : x.has a := by
   by_cases c : x.has a
   ·exact c
   ·exact absurd ((Hq.Hp.A_neg o (by omega)).2 c) hz
  refine (Hq.Push_has H o a (by omega) _ rfl (by omega)).mono fun e w' ⟨he, hw⟩ => ⟨_, he, ?_, by rw [← hw]; exact Only.refl _ _⟩
  subst hw
  exact ⟨vl, va, vs, x, H, o, r, hn, fun b => ⟨fun h => h.elim (hA b).1 (fun e => by rw [e]; exact hh), fun h => .inl ((hA b).2 h)⟩, fun k hk => .inl (hf k hk)⟩
theorem heapS_new (w : World) (n : Nat) (hn : n ≤ 65536) : Calls Tryz.prog 35 #[.int .i64 (n : Int)] w fun e w' => ∃ bh, e = .returned (.pointer (some ⟨bh, 0, none⟩)) ∧ HeapS w' bh n (fun a => a < n) (fun k => w.heap.size ≤ k ∧ k < w'.heap.size) ∧ Only (fun _ => False) w w' := by
 refine (Hq.New_any (n : Int) n hn (.inl rfl)).mono fun e w' h => ?_
 obtain ⟨b, vl, va, vs, he, H, hf, ho⟩ := h
 exact ⟨b, he, ⟨vl, va, vs, _, H, Hq.Hp.new_ok n hn, Hq.Hp.set_new_ord n, by simp [Hq.Hp.new], fun a => (Hq.Hp.set_new_has n a).symm, fun k hk => ⟨hf k hk, H.lt hk⟩⟩, ho⟩
end
end Go.Proofs.YtjedgdamommgeaaGreat
namespace Go.Proofs.YtjedgdamommgeaaGreat
open Go.RowKit
open Tr
def NoteCells (L : List Sv.Note) (xs : List Value) : Prop := ∃ ms : List Bool, ms.length = L.length ∧ xs = (L.zip ms).flatMap fun p => [.int .i64 p.1.num, .int .i64 p.1.size, .int .i64 p.1.levels, .bool p.2]
def stepCells (us : List Value) (P : List (Bool × List Int)) : List Value := (P.zip us).flatMap fun p => [.bool p.1.1, p.2]
def StepMine (G : Tag) (v : Value) (xs : List Int) : Prop := 0 < xs.length → ∀ k, Value.blk v = some k → G k = (8, 0)
theorem StepMine.agree {w : World} {g g' : Tag} {v : Value} {xs : List Int} (ht : StepMine g v xs) (h : Ints w v xs) (hg : Agree w g g') : StepMine g' v xs :=
 fun hp k hk => by rw [hg k (h.lt hp hk)]; exact ht hp k hk
structure SvV where
 bt : Nat
 bh : Nat
 bp : Nat
 vl : Value
 va : Value
 y : Nat
 vp : Value
 ns : List Value
 last : List Bool
 us : List Value
 A : Nat → Prop
structure SvAt (w : World) (G : Tag) (b : Nat) (V : SvV) (S : Sv.St) : Prop where
 blk : w.heap[b]? = some (.cells #[cN S.T.n, .pointer (some ⟨V.bt, 0, none⟩), .pointer (some ⟨V.bh, 0, none⟩), .pointer (some ⟨V.bp, 0, none⟩), V.vl, V.va, .int .u64 (V.y : Int), .bool S.dead, V.vp] 66 (0, 0))
 tb : G b = (1, 0)
 trail : ∃ g U, TrAt w g V.bt U S.T ∧ ∀ k, Mine g k → G k = (2, 0)
 heap : HeapS w V.bh S.T.n V.A (fun k => G k = (3, 0))
 pace : PaceAt w V.bp S.left S.turns S.keep
 tp : G V.bp = (4, 0)
 learnt : RowZ w G (5, 0) 116 4 V.vl S.learnt.length V.ns
 nc : NoteCells S.learnt V.ns
 last : Row w G (6, 0) 4 V.va (V.last.map Value.bool)
 ll : V.last.length = S.T.n
 proof : RowZ w G (7, 0) 76 2 V.vp S.proof.length (stepCells V.us S.proof)
 ul : V.us.length = S.proof.length
 steps : ∀ i, i < S.proof.length → Ints w (V.us.getD i nilS) (S.proof.getD i (false, [])).2 ∧ StepMine G (V.us.getD i nilS) (S.proof.getD i (false, [])).2
 yb : 1 ≤ V.y ∧ V.y ≤ 1099511627776
 fresh : Fresh w G
section
variable {w w' : World} {G G' : Tag} {b : Nat} {V : SvV} {S : Sv.St}
theorem SvAt.only0 (H : SvAt w G b V S) (ho : Only (fun _ => False) w w') : SvAt w' G b V S := by
 obtain ⟨g, U, t1, t2⟩ := H.trail
 exact ⟨only_block H.blk ho (fun f => f), H.tb, ⟨g, U, t1.only0 ho, t2⟩, H.heap.only ho (fun _ _ f => f), H.pace.only ho (fun f => f), H.tp, H.learnt.only ho (fun _ _ f => f), H.nc, H.last.only ho (fun _ _ f => f), H.ll, H.proof.only ho (fun _ _ f => f), H.ul,
  fun i hi => ⟨(H.steps i hi).1.only' ho (fun _ _ _ f => f), (H.steps i hi).2⟩, H.yb, H.fresh.more ho.size⟩
def Tag.take (G g : Tag) : Tag := fun k => if (g k).1 = 0 then G k else (2, 0)
theorem SvAt.setT (H : SvAt w G b V S) {g : Tag} {U : TrV} (h1 : TrAt w g V.bt U S.T) (h2 : ∀ k, Mine g k → G k = (2, 0)) {T' : Trail} (hn : T'.n = S.T.n) (h : TrTo w g V.bt T' w') :
  ∃ G', SvAt w' G' b V { S with T := T' } ∧ Agree w G G' ∧ Only (fun k => G k = (2, 0)) w w' := by
 obtain ⟨g', U', a1, a2, a3⟩ := h
 have ho : Only (fun k => G k = (2, 0)) w w' := a3.mono h2
 have hag : Agree w G (Tag.take G g') := by
  intro k hk
  unfold Tag.take
  split
  ·rfl
  ·rename_i hc
   rw [a2 k hk] at hc
   exact (h2 k hc).symm
 have hne : ∀ (t : Nat × Nat), t ≠ (2, 0) → ∀ k, G k = t → ¬ G k = (2, 0) := fun t ht k hk => by rw [hk]; exact ht
 have lb := lt_block H.blk
 have lp := lt_block H.pace
 obtain ⟨vl, va, vs, x, K, o, r, hx, hA, hf⟩ := H.heap
 refine ⟨Tag.take G g', ⟨?_, (hag b lb).trans H.tb, ⟨g', U', a1, fun k hk => ?_⟩, ?_, H.pace.only ho (hne _ (by decide) _ H.tp), (hag _ lp).trans H.tp, H.learnt.keep ho (hne _ (by decide)) hag, H.nc, H.last.keep ho (hne _ (by decide)) hag, by rw [H.ll]; exact hn.symm, H.proof.keep ho (hne _ (by decide)) hag, H.ul, fun i hi => ?_, H.yb, ?_⟩, hag, ho⟩
 ·have := only_block H.blk ho (hne _ (by decide) _ H.tb)
  simp only [hn]; exact this
 ·unfold Tag.take; rw [if_neg hk]
 ·have hh := H.heap.only ho (hne _ (by decide))
  obtain ⟨vl, va, vs, x, K, o, r, hx, hA, hf⟩ := H.heap
  exact ⟨vl, va, vs, x, K.only ho (hne _ (by decide) _ (hf _ (.inl rfl))) (fun k hk => hne _ (by decide) _ (hf _ (.inr (.inl hk)))) (fun k hk => hne _ (by decide) _ (hf _ (.inr (.inr (.inl hk))))) (fun k hk => hne _ (by decide) _ (hf _ (.inr (.inr (.inr hk))))), o, r, by rw [hx]; exact hn.symm, hA, fun k hk => (hag k (K.lt hk)).trans (hf k hk)⟩
 ·obtain ⟨s1, s2⟩ := H.steps i hi
  exact ⟨s1.only' ho (fun hp k hk hc => by have := s2 hp k hk; rw [hc] at this; exact absurd this (by decide)), s2.agree s1 hag⟩
 ·intro k hk
  have e := a1.fresh k hk
  unfold Tag.take
  rw [if_pos e]
  exact H.fresh k (Nat.le_trans ho.size hk)
end
section
variable {w w' : World} {G G' : Tag} {b : Nat} {V : SvV} {S : Sv.St}
theorem SvAt.f0 (H : SvAt w G b V S) : w.cell? ⟨b, 0, none⟩ = some (cN S.T.n) := by rw [cell_block H.blk]; rfl
theorem SvAt.f1 (H : SvAt w G b V S) : w.cell? ⟨b, 1, none⟩ = some (.pointer (some ⟨V.bt, 0, none⟩)) := by rw [cell_block H.blk]; rfl
theorem SvAt.f2 (H : SvAt w G b V S) : w.cell? ⟨b, 2, none⟩ = some (.pointer (some ⟨V.bh, 0, none⟩)) := by rw [cell_block H.blk]; rfl
theorem SvAt.f3 (H : SvAt w G b V S) : w.cell? ⟨b, 3, none⟩ = some (.pointer (some ⟨V.bp, 0, none⟩)) := by rw [cell_block H.blk]; rfl
theorem SvAt.f4 (H : SvAt w G b V S) : w.cell? ⟨b, 4, none⟩ = some V.vl := by rw [cell_block H.blk]; rfl
theorem SvAt.f5 (H : SvAt w G b V S) : w.cell? ⟨b, 5, none⟩ = some V.va := by rw [cell_block H.blk]; rfl
theorem SvAt.f6 (H : SvAt w G b V S) : w.cell? ⟨b, 6, none⟩ = some (.int .u64 (V.y : Int)) := by rw [cell_block H.blk]; rfl
theorem SvAt.f7 (H : SvAt w G b V S) : w.cell? ⟨b, 7, none⟩ = some (.bool S.dead) := by rw [cell_block H.blk]; rfl
theorem SvAt.f8 (H : SvAt w G b V S) : w.cell? ⟨b, 8, none⟩ = some V.vp := by rw [cell_block H.blk]; rfl
theorem SvAt.free (H : SvAt w G b V S) (i : Nat) : w.frozen? ⟨b, i, none⟩ = false := free_block H.blk i
theorem SvAt.lb (H : SvAt w G b V S) : b < w.heap.size := lt_block H.blk
theorem SvAt.lp (H : SvAt w G b V S) : V.bp < w.heap.size := lt_block H.pace
theorem HeapS.keep {bh n : Nat} {A : Nat → Prop} {t : Nat × Nat} (h : HeapS w bh n A (fun k => G k = t)) {F : Nat → Prop} (ho : Only F w w') (hF : ∀ k, G k = t → ¬ F k) (hg : Agree w G G') : HeapS w' bh n A (fun k => G' k = t) := by
 obtain ⟨vl, va, vs, x, K, o, r, hx, hA, hf⟩ := h
 exact ⟨vl, va, vs, x, K.only ho (hF _ (hf _ (.inl rfl))) (fun k hk => hF _ (hf _ (.inr (.inl hk)))) (fun k hk => hF _ (hf _ (.inr (.inr (.inl hk))))) (fun k hk => hF _ (hf _ (.inr (.inr (.inr hk))))), o, r, hx, hA, fun k hk => (hg k (K.lt hk)).trans (hf k hk)⟩
theorem trail_keep {bt : Nat} {T : Trail} (h : ∃ g U, TrAt w g bt U T ∧ ∀ k, Mine g k → G k = (2, 0)) {F : Nat → Prop} (ho : Only F w w') (hF : ∀ k, G k = (2, 0) → ¬ F k) (hg : Agree w G G') : ∃ g U, TrAt w' g bt U T ∧ ∀ k, Mine g k → G' k = (2, 0) := by
 obtain ⟨g, U, t1, t2⟩ := h
 refine ⟨g, U, t1.only ho (fun k hk => hF k (t2 k hk)), fun k hk => ?_⟩
 by_cases c : k < w.heap.size
 ·rw [hg k c]; exact t2 k hk
 ·exact absurd (t1.fresh k (by omega)) hk
theorem SvAt.steps_keep (H : SvAt w G b V S) {t : Nat} (ht : t ≠ 8) {u : Nat} (ho : Only (fun k => G k = (t, u)) w w') (hg : Agree w G G') {i : Nat} (hi : i < S.proof.length) :
  Ints w' (V.us.getD i nilS) (S.proof.getD i (false, [])).2 ∧ StepMine G' (V.us.getD i nilS) (S.proof.getD i (false, [])).2 := by
 obtain ⟨s1, s2⟩ := H.steps i hi
 exact ⟨s1.only' ho (fun hp k hk hc => by have := s2 hp k hk; rw [hc] at this; simp only [Prod.mk.injEq] at this; exact ht this.1), s2.agree s1 hg⟩
theorem SvAt.setA (H : SvAt w G b V S) {ba n cap : Nat} (hv : V.va = .slice (some ⟨ba, 0, none⟩) n cap) (i : Nat) (r : Bool) :
  SvAt (w.setCell ⟨ba, i, none⟩ (.bool r)) G b { V with last := V.last.set i r } S ∧ Only (fun k => G k = (6, 0)) w (w.setCell ⟨ba, i, none⟩ (.bool r)) := by
 have hga : G ba = (6, 0) := H.last.tg ba (by rw [hv]; rfl)
 have ho : Only (fun k => G k = (6, 0)) w (w.setCell ⟨ba, i, none⟩ (.bool r)) := Only.setCell (Only.refl _ _) (.inl hga) _
 have hag := Agree.refl w G
 have hne : ∀ (t : Nat × Nat), t ≠ (6, 0) → ∀ k, G k = t → ¬ G k = (6, 0) := fun t ht k hk => by rw [hk]; exact ht
 refine ⟨⟨only_block H.blk ho (hne _ (by decide) _ H.tb), H.tb, trail_keep H.trail ho (hne _ (by decide)) hag, H.heap.keep ho (hne _ (by decide)) hag, H.pace.only ho (hne _ (by decide) _ H.tp), H.tp, H.learnt.keep ho (hne _ (by decide)) hag, H.nc, ?_, by rw [List.length_set]; exact H.ll, H.proof.keep ho (hne _ (by decide)) hag, H.ul, fun j hj => H.steps_keep (by decide) ho hag hj, H.yb, H.fresh.more ho.size⟩, ho⟩
 have := H.last
 rw [hv] at this ⊢
 have := this.store i (.bool r)
 rw [← List.map_set] at this
 exact this
theorem SvAt.setH (H : SvAt w G b V S) {A' : Nat → Prop} (h : HeapS w' V.bh S.T.n A' (fun k => G k = (3, 0) ∨ w.heap.size ≤ k)) (ho : Only (fun k => G k = (3, 0)) w w') :
  ∃ G', SvAt w' G' b { V with A := A' } S ∧ Agree w G G' := by
 have hag := Agree.put (w := w) G (hi := w'.heap.size) (3, 0) (Nat.le_refl w.heap.size)
 have hne : ∀ (t : Nat × Nat), t ≠ (3, 0) → ∀ k, G k = t → ¬ G k = (3, 0) := fun t ht k hk => by rw [hk]; exact ht
 obtain ⟨vl, va, vs, x, K, o, r, hx, hA, hf⟩ := h
 refine ⟨_, ⟨only_block H.blk ho (hne _ (by decide) _ H.tb), (hag _ H.lb).trans H.tb, trail_keep H.trail ho (hne _ (by decide)) hag, ⟨vl, va, vs, x, K, o, r, hx, hA, fun k hk => ?_⟩, H.pace.only ho (hne _ (by decide) _ H.tp), (hag _ H.lp).trans H.tp, H.learnt.keep ho (hne _ (by decide)) hag, H.nc, H.last.keep ho (hne _ (by decide)) hag, H.ll, H.proof.keep ho (hne _ (by decide)) hag, H.ul, fun j hj => H.steps_keep (by decide) ho hag hj, H.yb, H.fresh.put _ ho.size⟩, hag⟩
 have hlt := K.lt hk
 by_cases c : k < w.heap.size
 ·refine (hag k c).trans ?_
  rcases hf k hk with h | h
  ·exact h
  ·omega
 ·exact Tag.put_new _ _ (by omega) hlt
end
def Opens (V : SvV) (S : Sv.St) : Prop := ∀ a : Nat, a < S.T.n → S.T.val ((a : Int) + 1) = 0 → V.A a
def SvOk (w : World) (G : Tag) (b : Nat) (S : Sv.St) (w' : World) : Prop := ∃ G' V', SvAt w' G' b V' S ∧ Opens V' S ∧ Agree w G G' ∧ Only (Mine G) w w'
theorem back_take {T : Trail} (x : Int) : ∃ k, k ≤ T.lits.length ∧ (T.back x).lits = T.lits.take k ∧ (T.back x).lits.length = k := by
 unfold Trail.back
 split
 ·rw [backTo_lits]
  refine ⟨min (T.levels.getD x.toNat (0, 0)).1 T.lits.length, Nat.min_le_right _ _, ?_, List.length_take⟩
  exact List.take_eq_take_min
 ·exact ⟨T.lits.length, Nat.le_refl _, (List.take_length).symm, rfl⟩
theorem back_opens {T : Trail} (o : Ok T) {x : Int} (o' : Ok (T.back x)) {k : Nat} (hk : (T.back x).lits = T.lits.take k) {a : Nat} (h : (T.back x).val ((a : Int) + 1) = 0) :
  T.val ((a : Int) + 1) = 0 ∨ ∃ i, k + i < T.lits.length ∧ (T.lits.getD (k + i) 0).natAbs = a + 1 := by
 have key : ∀ y : Int, y.natAbs = a + 1 → y ∈ T.lits → y ∉ (T.back x).lits → ∃ i, k + i < T.lits.length ∧ (T.lits.getD (k + i) 0).natAbs = a + 1 := by
  intro y hy hm hn
  obtain ⟨i, hi, rfl⟩ := List.mem_iff_getElem.1 hm
  have hki : k ≤ i := by
   rcases Nat.lt_or_ge i k with c | c
   ·exfalso; apply hn; rw [hk]; exact List.mem_take_iff_getElem.2 ⟨i, by omega, rfl⟩
   ·exact c
  refine ⟨i - k, by omega, ?_⟩
  rw [show k + (i - k) = i by omega, List.getD_eq_getElem?_getD, List.getElem?_eq_getElem hi]
  exact hy
 rcases val3 T ((a : Int) + 1) with c | c | c
 ·exact .inl c
 ·refine .inr (key _ (by omega) (o.one.1 c) fun hm => ?_)
  have := o'.one.2 hm
  omega
 ·refine .inr (key _ (by omega) (o.neg1.1 c) fun hm => ?_)
  have := o'.neg1.2 hm
  omega
section
variable {w w' : World} {G G' : Tag} {b : Nat} {V : SvV} {S : Sv.St}
theorem Agree.agree_old {w w1 : World} {G G2 : Tag} (h : Agree w1 G G2) (hs : w.heap.size ≤ w1.heap.size) : Agree w G G2 := fun q hq => h q (by omega)
structure BackAt (w : World) (G : Tag) (b : Nat) (V : SvV) (S : Sv.St) (L : List Int) (k bl j : Nat) (wr : World) (G' : Tag) (V' : SvV) : Prop where
 at_ : SvAt wr G' b V' S
 old : ∀ a, V.A a → V'.A a
 new : ∀ i, i < j → V'.A ((L.getD (k + i) 0).natAbs - 1)
 ag : Agree w G G'
 on : Only (Mine G) w wr
 bl0 : 0 < L.length → (G' bl).1 = 0
 blt : 0 < L.length → bl < wr.heap.size
 cells : ∀ i, i < L.length → wr.cell? ⟨bl, i, none⟩ = some (cI (L.getD i 0))
theorem BackAt.step {L : List Int} {k bl j : Nat} {wr w1 w2 : World} {G1 : Tag} {V1 : SvV} (B : BackAt w G b V S L k bl j wr G1 V1) {ba n cap a : Nat} (hv : V1.va = .slice (some ⟨ba, 0, none⟩) n cap) {r : Bool} (h1 : wr.setCell ⟨ba, a, none⟩ (.bool r) = w1)
  (ha : (L.getD (k + j) 0).natAbs - 1 = a) (hp : HeapS w2 V1.bh S.T.n (fun x => V1.A x ∨ x = a) (fun q => G1 q = (3, 0) ∨ w1.heap.size ≤ q)) (ho : Only (fun q => G1 q = (3, 0)) w1 w2) :
  ∃ G2 V2, BackAt w G b V S L k bl (j + 1) w2 G2 V2 := by
 obtain ⟨a1, a2⟩ := B.at_.setA hv a r
 rw [h1] at a1 a2
 obtain ⟨G2, s1, s2⟩ := a1.setH (A' := fun x => V1.A x ∨ x = a) hp ho
 have hlt := fun h => Nat.lt_of_lt_of_le (B.blt h) a2.size
 have hm : Only (Mine G) w w2 := by
  have m1 : Only (Mine G1) wr w1 := a2.mono fun q hq => by unfold Mine; rw [hq]; decide
  have m2 : Only (Mine G1) w1 w2 := ho.mono fun q hq => by unfold Mine; rw [hq]; decide
  exact B.on.mine B.ag (m1.trans m2 fun _ h => .inl h)
 refine ⟨G2, _, s1, fun x hx => .inl (B.old x hx), fun i hi => ?_, ?_, hm, (fun h => by rw [s2 bl (hlt h)]; exact B.bl0 h), fun h => Nat.lt_of_lt_of_le (hlt h) ho.size, fun i hi => ?_⟩
 ·by_cases c : i = j
  ·subst c; exact .inr ha
  ·exact .inl (B.new i (by omega))
 ·intro q hq
  rw [s2 q (Nat.lt_of_lt_of_le hq (Nat.le_trans B.on.size a2.size))]
  exact B.ag q hq
 ·have hb0 := B.bl0 (by omega)
  exact cell_keep (cell_keep (B.cells i hi) a2 (fun h => by rw [h] at hb0; simp at hb0)) ho (fun h => by rw [h] at hb0; simp at hb0)
set_option maxRecDepth 100000 in
set_option maxHeartbeats 3200000 in
theorem solve_back_any (H : SvAt w G b V S) (I : Inv S.T) (hop : Opens V S) (x : Int) (hx : InI64 x) :
  Calls Tryz.prog 38 #[.pointer (some ⟨b, 0, none⟩), .int .i64 x] w fun e w' => e = .returned (.tuple #[]) ∧ SvOk w G b { S with T := S.T.back x } w' := by
 obtain ⟨g, U, t1, t2⟩ := H.trail
 have q1 := H.f1
 have HL := Lib.hid (prop_List_any t1 I.ok)
 have hb : ∀ w1, Only (fun _ => False) w w1 → Calls Tryz.prog 64 #[.pointer (some ⟨V.bt, 0, none⟩), .int .i64 x] w1 fun e w' => e = .returned (.tuple #[]) ∧ TrTo w1 g V.bt (S.T.back x) w' := fun w1 ho => prop_Back_any (t1.only0 ho) I x hx
 have HB := Lib.hid hb
 clear hb
 have I' : Inv (S.T.back x) := I.back x
 obtain ⟨k, hkl, hkt, hkn⟩ := back_take (T := S.T) x
 have hTn := I.ok.n
 have hO0 := fun a => back_opens I.ok (x := x) I'.ok hkt (a := a)
 have hlit := I.ok.good.lit
 have hlen := I.ok.good.len
 have hTT : (S.T.back x).n = S.T.n := (back_same S.T x).2.2
 generalize hT' : S.T.back x = T' at *
 have HO0 := Lib.hid hO0
 have HLit := Lib.hid hlit
 have HOp := Lib.hid hop
 clear hO0 hlit hop hT'
 go_enter Tryz.func38, Tryz.ntmps38
 go_wp2_with fail
 refine HL.out.mono ?_
 rintro e w1 ⟨v, rfl, R1, N1, O1⟩
 have H1 := H.only0 O1
 have q1' := H1.f1
 obtain ⟨n, hn⟩ : ∃ n, S.T.lits.length = n := ⟨_, rfl⟩
 rw [hn] at R1 hkl hlen
 have hN : ∀ q, v.ownBlock = some q → (G q).1 = 0 ∧ q < w1.heap.size := fun q hq => ⟨H.fresh q (N1 q hq), own_lt R1 hq⟩
 obtain ⟨ao, cap, rfl, hc1, hc2⟩ := own_slice R1
 have HN := Lib.hid hN
 have HR1 := Lib.hid R1
 clear hN R1 N1
 go_wp2_with fail
 refine (HB.out w1 O1).mono ?_
 rintro e w2 ⟨rfl, h2⟩
 obtain ⟨G2, H2, A2, O2⟩ := H1.setT (t1.only0 O1) t2 hTT h2
 clear h2
 have q2 := H2.f1
 obtain ⟨g', U', t1', t2'⟩ := H2.trail
 have HL2 := Lib.hid (prop_List_any t1' I'.ok)
 go_wp2_with fail
 refine HL2.out.mono ?_
 rintro e w3 ⟨v2, rfl, R3, N3, O3⟩
 rw [show ({ S with T := T' } : Sv.St).T.lits.length = k from hkn] at R3
 obtain ⟨ao2, cap2, rfl, hd1, hd2⟩ := own_slice R3
 clear R3 N3
 have H3 := H2.only0 O3
 have A3 : Agree w G G2 := A2.agree_old O1.size
 have O13 : Only (Mine G) w w3 := (O1.mono fun _ f => f.elim).trans ((O2.mono fun q hq => by unfold Mine; rw [hq]; decide : Only (Mine G) w1 w2).same (O3.mono fun _ f => f.elim)) fun _ h => .inl h
 obtain ⟨bl, hbl⟩ : ∃ bl, 0 < n → ao = some ⟨bl, 0, none⟩ := by
  by_cases c : 0 < n
  ·obtain ⟨q, cq, hq, -, -⟩ := own_some HR1.out c
   simp only [Value.slice.injEq] at hq
   exact ⟨q, fun _ => hq.1⟩
  ·exact ⟨0, fun h => absurd h c⟩
 have hB0 : BackAt w G b V { S with T := T' } S.T.lits k bl 0 w3 G2 V := by
  refine ⟨H3, fun _ h => h, fun i hi => by omega, A3, O13, fun h => ?_, fun h => ?_, fun i hi => ?_⟩
  ·rw [hn] at h
   have hh := HN.out bl (by rw [hbl h]; rfl)
   rw [A2 bl hh.2]; exact hh.1
  ·rw [hn] at h
   have hh := HN.out bl (by rw [hbl h]; rfl)
   exact Nat.lt_of_lt_of_le hh.2 (Nat.le_trans O2.size O3.size)
  ·rw [hn] at hi
   have h0 : 0 < n := by omega
   have hh := HN.out bl (by rw [hbl h0]; rfl)
   have hr := HR1.out
   rw [hbl h0] at hr
   have hc := hr.cellAt i (by omega)
   have hcc : w1.cell? ⟨bl, i, none⟩ = some (cI (S.T.lits.getD i 0)) := by
    rw [hc]; simp [List.getD_eq_getElem?_getD, List.getElem?_eq_getElem (show i < S.T.lits.length by omega)]
   have g1 := hh.1
   exact cell_keep (cell_keep hcc O2 (fun h => by rw [h] at g1; simp at g1)) O3 (fun f => f)
 obtain ⟨m, hm⟩ : ∃ m, n - k = m := ⟨_, rfl⟩
 have HB0 := Lib.hid hB0
 clear hB0 HN HR1 H3 O13 A3 O3 O2 A2 H2 H1 O1 t1 t1' t2 t2' HL HL2 HB
 go_wp2_with fail
 ·have hm0 : n = k := by omega
  have hmz : m = 0 := by omega
  go_loopw [27] (fun v wr => ∃ (j : Nat) (G1 : Tag) (V1 : SvV), v = .int .i64 j ∧ j ≤ m ∧ BackAt w G b V { S with T := T' } S.T.lits k bl j wr G1 V1) (fun v _ => m - (intOf v).toNat)
  case atStart => exact ⟨0, _, _, rfl, Nat.zero_le _, HB0.out⟩
  case round =>
   obtain ⟨j, G1, V1, rfl, hj, hB⟩ := hrel
   have HB := Lib.hid hB
   clear HB0
   clear hB
   have hj0 : j = 0 := by omega
   have hj2 : j = m := by omega
   subst hj2
   go_wp2_with fail
   go_end0
   have B := HB.out
   refine ⟨rfl, G1, V1, B.at_, fun a ha hv => ?_, B.ag, B.on⟩
   rcases HO0.out a hv with c | ⟨i, hi, hc⟩
   ·exact B.old a (HOp.out a (by have := hTT; show a < S.T.n; have ha : a < T'.n := ha; omega) c)
   ·have := B.new i (by omega)
    rw [hc] at this
    exact this
 ·clear h
  generalize hap : Option.map (fun x : Addr => x.add k) ao = ap
  go_loopw [27] (fun v wr => ∃ (j : Nat) (G1 : Tag) (V1 : SvV), v = .int .i64 j ∧ j ≤ m ∧ BackAt w G b V { S with T := T' } S.T.lits k bl j wr G1 V1) (fun v _ => m - (intOf v).toNat)
  case atStart => exact ⟨0, _, _, rfl, Nat.zero_le _, HB0.out⟩
  case round =>
   obtain ⟨j, G1, V1, rfl, hj, hB⟩ := hrel
   have HB := Lib.hid hB
   clear HB0
   by_cases cj : j < m
   ·have ha0 : ap = some ⟨bl, k, none⟩ := by rw [← hap, hbl (by omega)]; simp [Go.WideShapes.add_plain]
    clear hap
    subst ha0
    obtain ⟨l, hl⟩ : ∃ l, S.T.lits.getD (k + j) 0 = l := ⟨_, rfl⟩
    have hlc := hB.cells (k + j) (by omega)
    rw [hl] at hlc
    have hll := HLit.out l (by rw [← hl]; exact getD_mem' 0 (by omega))
    obtain ⟨a, ha⟩ : ∃ a : Nat, l.natAbs - 1 = a := ⟨_, rfl⟩
    have ewl : IntKind.i64.wrap (-l) = -l := IntWalk.i64_in _ (by omega)
    have hmx : max l (-l) = (a : Int) + 1 := by omega
    have ewm : IntKind.i64.wrap ((a : Int) + 1 - 1) = a := by rw [IntWalk.i64_in _ (by omega)]; omega
    have ban : a < S.T.n := by omega
    have hA := hB.at_
    have q5 := hA.f5
    have hla := hA.last
    have hlln : V1.last.length = T'.n := hA.ll
    obtain ⟨ba, ca, hva, hca1, hca2, -, -⟩ := hla.pos (by rw [List.length_map]; omega)
    rw [List.length_map] at hva hca1
    rw [hva] at q5 hla
    have kc := hla.cellM false (i := a) (by omega)
    have kf := hla.free a
    have ban2 : a < V1.last.length := by omega
    have hst : ∀ r w1, wr.setCell ⟨ba, a, none⟩ (.bool r) = w1 → w1.cell? ⟨b, 2, none⟩ = some (.pointer (some ⟨V1.bh, 0, none⟩)) ∧ Calls Tryz.prog 65 #[.pointer (some ⟨V1.bh, 0, none⟩), .int .i64 ((a : Int) + 1)] w1 fun e w2 => ∃ r, e = .returned (.bool r) ∧ ∃ G2 V2, BackAt w G b V { S with T := T' } S.T.lits k bl (j + 1) w2 G2 V2 := by
     intro r w1 h1
     have hs := (hA.setA hva a r).1
     rw [h1] at hs
     refine ⟨hs.f2, (hs.heap.push (a := a) (by show a < T'.n; omega)).mono ?_⟩
     rintro e w2 ⟨r2, he, h2, h3⟩
     exact ⟨r2, he, hB.step hva h1 (by rw [hl]; exact ha) h2 h3⟩
    have HSt := Lib.hid hst
    clear hst hA hla hB HB
    generalize V1.va = va at *
    subst hva
    have ewj : IntKind.i64.wrap ((j : Int) + 1) = ((j + 1 : Nat) : Int) := by rw [IntWalk.i64_in _ (by omega)]; rfl
    obtain ⟨w4, hw4⟩ : ∃ w4, wr.setCell ⟨ba, a, none⟩ (.bool (decide (l > 0))) = w4 := ⟨_, rfl⟩
    obtain ⟨q6, hP⟩ := HSt.out _ _ hw4
    have HP := Lib.hid hP
    clear hP HSt
    go_wp2_with fail
    refine HP.out.mono ?_
    rintro e w5 ⟨r2, rfl, hB2⟩
    have HB2 := Lib.hid hB2
    clear hB2
    go_wp2_with fail
    go_roundw
    case rel =>
     obtain ⟨G2', V2, hB2⟩ := HB2.out
     exact ⟨j + 1, _, _, rfl, by omega, hB2⟩
    case measure => (simp [intOf]; omega)
   ·clear hB
    have hj2 : j = m := by omega
    subst hj2
    go_wp2_with fail
    go_end0
    have B := HB.out
    refine ⟨rfl, G1, V1, B.at_, fun a ha hv => ?_, B.ag, B.on⟩
    rcases HO0.out a hv with c | ⟨i, hi, hc⟩
    ·exact B.old a (HOp.out a (by have := hTT; show a < S.T.n; have ha : a < T'.n := ha; omega) c)
    ·have := B.new i (by omega)
     rw [hc] at this
     exact this
end
section
variable {w w' : World} {G G' : Tag} {b : Nat} {V : SvV} {S : Sv.St}
theorem addX_same (T : Trail) (xs : List Int) : (T.addX xs).n = T.n ∧ (T.addX xs).lits = T.lits := by
 unfold Trail.addX
 split
 ·split
  ·exact ⟨rfl, rfl⟩
  ·exact ⟨rfl, rfl⟩
 ·exact ⟨rfl, rfl⟩
theorem Opens.addX (h : Opens V S) (xs : List Int) : Opens V { S with T := S.T.addX xs } := by
 intro a ha hv
 have e := addX_same S.T xs
 refine h a (by rw [← e.1]; exact ha) ?_
 unfold Trail.val at hv ⊢
 rw [← e.2]; exact hv
set_option maxRecDepth 100000 in
set_option maxHeartbeats 1600000 in
theorem solve_Add_any (H : SvAt w G b V S) (I : Inv S.T) (hop : Opens V S) (hcb : S.T.cls.length < 2147483648) {v : Value} {xs : List Int} (hI : Ints w v xs) (hN : NotMine G v xs) (hxb : xs.length ≤ 17592186043904) :
  Calls Tryz.prog 15 #[.pointer (some ⟨b, 0, none⟩), v] w fun e w' => e = .returned (.bool (decide ((S.T.back 0).addR xs ≥ 0))) ∧ SvOk w G b { S with T := (S.T.back 0).addX xs } w' := by
 have HB := Lib.hid (solve_back_any H I hop 0 (by unfold InI64; omega))
 have I' : Inv (S.T.back 0) := I.back 0
 have hcb' : (S.T.back 0).cls.length < 2147483648 := by rw [(back_same S.T 0).1]; exact hcb
 have hstep : ∀ w1, SvOk w G b { S with T := S.T.back 0 } w1 → ∃ bt, w1.cell? ⟨b, 1, none⟩ = some (.pointer (some ⟨bt, 0, none⟩)) ∧ Calls Tryz.prog 46 #[.pointer (some ⟨bt, 0, none⟩), v] w1 fun e w' => e = .returned (.int .i64 ((S.T.back 0).addR xs)) ∧ SvOk w G b { S with T := (S.T.back 0).addX xs } w' := by
  rintro w1 ⟨G1, V1, H1, p1, A1, O1⟩
  obtain ⟨g, U, t1, t2⟩ := H1.trail
  refine ⟨V1.bt, H1.f1, (prop_Add_any t1 I' hcb' (hI.mine hN O1) hxb).mono ?_⟩
  rintro e w2 ⟨he, h2⟩
  obtain ⟨G2, H2, A2, O2⟩ := H1.setT t1 t2 (addX_same _ xs).1 h2
  exact ⟨he, G2, V1, H2, p1.addX xs, A1.trans A2 O1.size, O1.mine A1 (O2.mono fun q hq => by unfold Mine; rw [hq]; decide)⟩
 have HSt := Lib.hid hstep
 clear hstep hI hN hop H
 generalize (S.T.back 0).addR xs = r at *
 go_enter Tryz.func15, Tryz.ntmps15
 go_wp2_with fail
 refine HB.out.mono ?_
 rintro e w1 ⟨rfl, h1⟩
 obtain ⟨bt, q1, hA⟩ := HSt.out w1 h1
 have HA := Lib.hid hA
 clear hA h1
 go_wp2_with fail
 refine HA.out.mono ?_
 rintro e w2 ⟨rfl, h2⟩
 have HR := Lib.hid h2
 clear h2
 go_wp2_with fail
 go_ret
 exact ⟨rfl, HR.out⟩
end
section
variable {w w' : World} {G G' : Tag} {b : Nat} {V : SvV} {S : Sv.St}
set_option maxRecDepth 100000 in
theorem solve_is_any (H : SvAt w G b V S) (hn : S.T.n ≤ 65536) (x : Int) (hx : InI64 x) (r : Bool) (hr : decide (x ≠ 0 ∧ x.natAbs ≤ S.T.n) = r) : Calls Tryz.prog 37 #[.pointer (some ⟨b, 0, none⟩), .int .i64 x] w fun e w' => e = .returned (.bool r) ∧ w = w' := by
 have q0 := H.f0
 clear H
 generalize S.T.n = n at *
 unfold InI64 at hx
 by_cases c0 : x = 0
 ·have hr' : r = false := by rw [← hr]; exact decide_eq_false (by omega)
  subst hr'
  subst c0
  go_enter Tryz.func37, Tryz.ntmps37
  go_wp2_with fail
  go_ret
  exact ⟨rfl, rfl⟩
 ·by_cases c1 : x = -9223372036854775808
  ·have hr' : r = false := by rw [← hr]; exact decide_eq_false (by omega)
   subst hr'
   subst c1
   go_enter Tryz.func37, Tryz.ntmps37
   go_wp2_with fail
   go_ret
   exact ⟨rfl, rfl⟩
  ·have d0 : (x == 0) = false := beq_eq_false_iff_ne.2 c0
   have d1 : (x == -9223372036854775808) = false := beq_eq_false_iff_ne.2 c1
   have ewl : IntKind.i64.wrap (-x) = -x := IntWalk.i64_in _ (by omega)
   obtain ⟨a, ha⟩ : ∃ a : Nat, x.natAbs = a := ⟨_, rfl⟩
   have hmx : max x (-x) = (a : Int) := by omega
   have hd : decide ((a : Int) ≤ (n : Int)) = r := by rw [← hr]; exact decide_eq_decide.2 (by omega)
   have hd2 : decide (a ≤ n) = r := by rw [← hr]; exact decide_eq_decide.2 (by omega)
   clear hr
   go_enter Tryz.func37, Tryz.ntmps37
   go_wp2_with fail
   go_ret
   first | exact ⟨rfl, rfl⟩ | (refine ⟨?_, rfl⟩; simp_all)
end
def heapLen (bh : Nat) (w : World) : Nat := slLen ((w.cell? ⟨bh, 0, none⟩).getD nilS)
theorem heapAt_len {w : World} {bh : Nat} {vl va vs : Value} {h : Hq.Hp} (H : Hq.HeapAt w bh vl va vs h) : heapLen bh w = h.L.length := by
 unfold heapLen
 rw [H.c0]
 obtain ⟨ao, cap, hv, -, -⟩ := own_slice H.l
 rw [hv]; rfl
def PopTo2 (w : World) (bh n : Nat) (A F : Nat → Prop) (e : Ending) (w' : World) : Prop :=
 (e = .returned (.int .i64 0) ∧ (∀ a, ¬ A a) ∧ w = w') ∨ ∃ a : Nat, e = .returned (.int .i64 ((a : Int) + 1)) ∧ A a ∧ a < n ∧ HeapS w' bh n (fun x => A x ∧ x ≠ a) F ∧ Only F w w' ∧ heapLen bh w' < heapLen bh w
theorem HeapS.pop2 {w : World} {bh n : Nat} {A F : Nat → Prop} (h : HeapS w bh n A F) : Calls Tryz.prog 113 #[.pointer (some ⟨bh, 0, none⟩)] w (PopTo2 w bh n A F) := by
 have hlt := fun a => h.lt (a := a)
 obtain ⟨vl, va, vs, x, H, o, r, hn, hA, hf⟩ := h
 by_cases hL : x.L.length = 0
 ·refine (Hq.Pop_none H hL).mono fun e w' ⟨he, hw⟩ => .inl ⟨he, fun a ha => ?_, hw⟩
  obtain ⟨j, hj, _⟩ := (hA a).1 ha
  omega
 ·obtain ⟨p1, p2, p3, p4, p5, p6, p7, p8⟩ := Hq.Hp.pop_all x o r (by omega)
  refine (Hq.Pop_any H o (by omega)).mono fun e w' ⟨he, ⟨vl', H', hf'⟩, ok', ho⟩ => .inr ⟨x.at1 0, he, (hA _).2 p7, hlt _ ((hA _).2 p7), ⟨vl', va, vs, x.pop, H', ok', p2, by rw [p3]; exact hn, fun a => ?_, fun k hk => hf k (hf' k hk)⟩, ho.mono hf, ?_⟩
  ·rw [p5]; exact and_congr_left fun _ => hA a
  ·rw [heapAt_len H', heapAt_len H, p4]; omega
section
variable {w w' : World} {G G' : Tag} {b : Nat} {V : SvV} {S : Sv.St}
def OpenTo (w : World) (G : Tag) (b : Nat) (S : Sv.St) (e : Ending) (w' : World) : Prop :=
 ∃ l : Int, e = .returned (.int .i64 l) ∧ ((l = 0 ∧ ∀ a : Nat, a < S.T.n → S.T.val ((a : Int) + 1) ≠ 0) ∨ (l ≠ 0 ∧ l.natAbs ≤ S.T.n ∧ S.T.val l = 0)) ∧
  ∃ G' V', SvAt w' G' b V' S ∧ (∀ a : Nat, a < S.T.n → S.T.val ((a : Int) + 1) = 0 → V'.A a ∨ a + 1 = l.natAbs) ∧ Agree w G G' ∧ Only (Mine G) w w'
structure OpenAt (w : World) (G : Tag) (b : Nat) (S : Sv.St) (bh : Nat) (wr : World) (G1 : Tag) (V1 : SvV) : Prop where
 at_ : SvAt wr G1 b V1 S
 op : Opens V1 S
 bh : V1.bh = bh
 ag : Agree w G G1
 on : Only (Mine G) w wr
theorem open_popped {bh : Nat} {wr w2 : World} {G1 : Tag} {V1 : SvV} (B : OpenAt w G b S bh wr G1 V1) (o : Ok S.T) {a : Nat} (h2 : a < S.T.n) (h3 : HeapS w2 bh S.T.n (fun x => V1.A x ∧ x ≠ a) (fun k => G1 k = (3, 0))) (h4 : Only (fun k => G1 k = (3, 0)) wr w2) :
  ∃ G2 V2 bt ba ca lb, SvAt w2 G2 b V2 S ∧ V2.bh = bh ∧ (∀ c : Nat, c < S.T.n → S.T.val ((c : Int) + 1) = 0 → V2.A c ∨ c = a) ∧ Agree w G G2 ∧ Only (Mine G) w w2 ∧
   w2.cell? ⟨b, 1, none⟩ = some (.pointer (some ⟨bt, 0, none⟩)) ∧ w2.cell? ⟨b, 5, none⟩ = some (.slice (some ⟨ba, 0, none⟩) S.T.n ca) ∧ w2.cell? ⟨ba, a, none⟩ = some (.bool lb) ∧
   ∀ r, S.T.val ((a : Int) + 1) = r → Calls Tryz.prog 69 #[.pointer (some ⟨bt, 0, none⟩), .int .i64 ((a : Int) + 1)] w2 fun e w' => e = .returned (.int .i64 r) ∧ w2 = w' := by
 have hTn := o.n
 have h3' : HeapS w2 V1.bh S.T.n (fun x => V1.A x ∧ x ≠ a) (fun k => G1 k = (3, 0) ∨ wr.heap.size ≤ k) := by
  rw [B.bh]
  obtain ⟨vl, va, vs, x, K, o', r, hx, hA, hf⟩ := h3
  exact ⟨vl, va, vs, x, K, o', r, hx, hA, fun k hk => .inl (hf k hk)⟩
 obtain ⟨G2, H2, A2⟩ := B.at_.setH h3' h4
 obtain ⟨g, U, t1, t2⟩ := H2.trail
 have q1 := H2.f1
 have q5 := H2.f5
 have hla := H2.last
 have hlln : V1.last.length = S.T.n := H2.ll
 obtain ⟨ba, ca, hva, hca1, hca2, -, -⟩ := hla.pos (by show 0 < (V1.last.map Value.bool).length; rw [List.length_map]; omega)
 have hva' : V1.va = .slice (some ⟨ba, 0, none⟩) S.T.n ca := by rw [← hlln]; rw [List.length_map] at hva; exact hva
 simp only at q1 q5 hla
 rw [hva'] at q5 hla
 have kc := hla.cellM false (i := a) (by omega)
 refine ⟨G2, _, _, ba, ca, _, H2, B.bh, fun c hc hv => ?_, B.ag.trans A2 B.on.size, B.on.mine B.ag (h4.mono fun q hq => by unfold Mine; rw [hq]; decide), q1, q5, kc, fun r hr => ?_⟩
 ·by_cases e : c = a
  ·exact .inr e
  ·exact .inl ⟨B.op c hc hv, e⟩
 ·exact prop_Value_any t1 o ((a : Int) + 1) (by unfold InI64; omega) r hr
set_option maxRecDepth 100000 in
set_option maxHeartbeats 3200000 in
theorem solve_open_any (H : SvAt w G b V S) (o : Ok S.T) (hop : Opens V S) : Calls Tryz.prog 71 #[.pointer (some ⟨b, 0, none⟩)] w (OpenTo w G b S) := by
 have hTn := o.n
 obtain ⟨bh, hbh⟩ : ∃ bh, V.bh = bh := ⟨_, rfl⟩
 have hst : OpenAt w G b S bh w G V := ⟨H, hop, hbh, Agree.refl _ _, Only.refl _ _⟩
 have HSt := Lib.hid hst
 have HOk := Lib.hid o
 clear hst H hop hbh o
 obtain ⟨n, hn⟩ : ∃ n, S.T.n = n := ⟨_, rfl⟩
 rw [hn] at hTn
 go_enter Tryz.func71, Tryz.ntmps71
 go_wp2_with fail
 go_loopw [] (fun wr => ∃ G1 V1, OpenAt w G b S bh wr G1 V1) (fun wr => heapLen bh wr)
 case atStart => exact ⟨G, V, HSt.out⟩
 case round =>
  clear HSt
  obtain ⟨G1, V1, B⟩ := hrel
  have q2 := B.at_.f2
  rw [B.bh] at q2
  have hp := B.at_.heap.pop2
  rw [B.bh] at hp
  have HP := Lib.hid hp
  have HB := Lib.hid B
  clear hp B
  go_wp2_with fail
  refine HP.out.mono ?_
  clear HP
  rintro e w2 (⟨rfl, h1, rfl⟩ | ⟨a, rfl, h1, h2, h3, h4, h5⟩)
  ·have H1 := Lib.hid h1
   clear h1
   go_wp2_with fail
   go_ret
   have B := HB.out
   exact ⟨0, rfl, .inl ⟨rfl, fun a ha hv => H1.out a (B.op a ha hv)⟩, G1, V1, B.at_, fun a ha hv => .inl (B.op a ha hv), B.ag, B.on⟩
  ·obtain ⟨G2, V2, bt, ba, ca, lb, H2, hbh, hother, hA3, hO3, q1, q5, kc, hV⟩ := open_popped HB.out HOk.out h2 h3 h4
   have H5 := Lib.hid h5
   rw [hn] at h2 q5
   have HH2 := Lib.hid H2
   have HHo := Lib.hid hother
   have HA3 := Lib.hid hA3
   have HO3 := Lib.hid hO3
   have HBh := Lib.hid hbh
   obtain ⟨r, hr⟩ : ∃ r, S.T.val ((a : Int) + 1) = r := ⟨_, rfl⟩
   have HV := Lib.hid (hV r hr)
   have HR := Lib.hid hr
   clear h5 h1 h3 h4 H2 hother hA3 hO3 hV hr HB q2 hbh
   have ewm : IntKind.i64.wrap ((a : Int) + 1 - 1) = a := by rw [IntWalk.i64_in _ (by omega)]; omega
   have ewn : IntKind.i64.wrap (-((a : Int) + 1)) = -((a : Int) + 1) := IntWalk.i64_in _ (by omega)
   have da : ((a : Int) + 1 == 0) = false := beq_eq_false_iff_ne.2 (by omega)
   by_cases cr : r = 0
   ·subst cr
    have hfin : ∀ l : Int, (l = (a : Int) + 1 ∨ l = -((a : Int) + 1)) → OpenTo w G b S (.returned (.int .i64 l)) w2 := by
     intro l hl
     refine ⟨l, rfl, .inr ⟨by omega, by rw [hn]; omega, ?_⟩, G2, V2, HH2.out, fun c hc hv => ?_, HA3.out, HO3.out⟩
     ·rcases hl with rfl | rfl
      ·exact HR.out
      ·rw [val_neg HOk.out, HR.out]; rfl
     ·rcases HHo.out c hc hv with h | h
      ·exact .inl h
      ·exact .inr (by omega)
    have HF := Lib.hid hfin
    clear hfin HH2 HHo HA3 HO3 HBh H5 HR HOk
    cases lb with
    | true =>
     go_wp2_with fail
     refine HV.out.mono ?_
     rintro e w3 ⟨rfl, rfl⟩
     go_wp2_with fail
     go_ret
     exact HF.out _ (.inl rfl)
    | false =>
     go_wp2_with fail
     refine HV.out.mono ?_
     rintro e w3 ⟨rfl, rfl⟩
     go_wp2_with fail
     go_ret
     exact HF.out _ (.inr rfl)
   ·have dr : (r == 0) = false := beq_eq_false_iff_ne.2 cr
    have dr2 : (r != 0) = true := by simpa using cr
    have HCr := Lib.hid cr
    clear cr
    go_wp2_with fail
    refine HV.out.mono ?_
    rintro e w3 ⟨rfl, rfl⟩
    go_wp2_with fail
    go_roundw
    case rel =>
     refine ⟨G2, V2, HH2.out, fun c hc hv => ?_, HBh.out, HA3.out, HO3.out⟩
     rcases HHo.out c hc hv with h | h
     ·exact h
     ·subst h; exact absurd (HR.out.symm.trans hv) HCr.out
    case measure => exact H5.out
end
end Go.Proofs.YtjedgdamommgeaaGreat

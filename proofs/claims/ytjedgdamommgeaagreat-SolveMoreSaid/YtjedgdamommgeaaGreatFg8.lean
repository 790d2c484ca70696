/- A solver's notes: their marks; what is behind when notes are taken out. -/
import Derived.Test.YtjedgdamommgeaaGreatFg7
import Derived.Test.YtjedgdamommgeaaGreatSolB
set_option linter.unusedVariables false
namespace Go.Proofs.YtjedgdamommgeaaGreat
open Go.Shelf Go.RowKit Go.Lib Go.Sort
open Tr
theorem set_same {α : Type} {l : List α} {i : Nat} {a : α} (h : l[i]? = some a) : l.set i a = l := by
 refine List.ext_getElem? fun j => ?_
 rw [List.getElem?_set]
 split
 ·rename_i e; subst e
  have := (List.getElem?_eq_some_iff.1 h).1
  rw [if_pos this, h]
 ·rfl
def noteQ (L : List Sv.Note) (ms : List Bool) : List NQ := (L.zip ms).map fun p => ⟨p.1.num, p.1.size, p.1.levels, p.2⟩
theorem noteQ_len {L : List Sv.Note} {ms : List Bool} (h : ms.length = L.length) : (noteQ L ms).length = L.length := by
 unfold noteQ; rw [List.length_map, List.length_zip, h]; simp
theorem noteQ_cells {L : List Sv.Note} {xs : List Value} : NoteCells L xs ↔ ∃ ms : List Bool, ms.length = L.length ∧ xs = flatN (noteQ L ms) := by
 unfold NoteCells flatN noteQ
 constructor
 ·rintro ⟨ms, h1, h2⟩
  exact ⟨ms, h1, by rw [h2, List.flatMap_map]; rfl⟩
 ·rintro ⟨ms, h1, h2⟩
  exact ⟨ms, h1, by rw [h2, List.flatMap_map]; rfl⟩
theorem noteQ_at {L : List Sv.Note} {ms : List Bool} (h : ms.length = L.length) {i : Nat} (hi : i < L.length) : (noteQ L ms).getD i default = ⟨L[i].num, L[i].size, L[i].levels, ms[i]⟩ := by
 unfold noteQ
 rw [List.getD_eq_getElem?_getD, List.getElem?_map, List.getElem?_eq_getElem (by rw [List.length_zip, h]; simpa using hi)]
 simp
theorem noteQ_set {L : List Sv.Note} {ms : List Bool} (h : ms.length = L.length) {i : Nat} (hi : i < L.length) (m : Bool) : (flatN (noteQ L ms)).set (i * 4 + 3) (.bool m) = flatN (noteQ L (ms.set i m)) := by
 have hl := noteQ_len h
 have hq := noteQ_at h hi
 have e1 := flatN_set (noteQ L ms) (i := i) (by omega) ⟨L[i].num, L[i].size, L[i].levels, m⟩
 have g := fun j (hj : j < 4) => flatN_get (noteQ L ms) (i := i) (j := j) (by omega) hj
 rw [hq] at g
 have g0 : (flatN (noteQ L ms))[i * 4]? = some (.int .i64 L[i].num) := g 0 (by omega)
 have g1 : (flatN (noteQ L ms))[i * 4 + 1]? = some (.int .i64 L[i].size) := g 1 (by omega)
 have g2 : (flatN (noteQ L ms))[i * 4 + 2]? = some (.int .i64 L[i].levels) := g 2 (by omega)
 have e2 : setL (flatN (noteQ L ms)) (i * 4) (encN ⟨L[i].num, L[i].size, L[i].levels, m⟩) = (flatN (noteQ L ms)).set (i * 4 + 3) (.bool m) := by
  show (((((flatN (noteQ L ms)).set (i * 4) _).set (i * 4 + 1) _).set (i * 4 + 1 + 1) _).set (i * 4 + 1 + 1 + 1) _) = _
  rw [set_same g0, set_same g1, set_same g2]
 rw [← e2, e1]
 congr 1
 unfold noteQ
 refine List.ext_getElem? fun j => ?_
 rw [List.getElem?_set, List.getElem?_map, List.getElem?_map]
 by_cases c : i = j
 ·subst c
  rw [if_pos rfl]
  have h2 : i < (List.map (fun p : Sv.Note × Bool => (⟨p.1.num, p.1.size, p.1.levels, p.2⟩ : NQ)) (L.zip ms)).length := by rw [List.length_map, List.length_zip, h]; simpa using hi
  rw [if_pos h2, List.getElem?_eq_getElem (show i < (L.zip (ms.set i m)).length by rw [List.length_zip, List.length_set, h]; simpa using hi)]
  simp
 ·rw [if_neg c]
  by_cases hj : j < L.length
  ·rw [List.getElem?_eq_getElem (show j < (L.zip ms).length by rw [List.length_zip, h]; simpa using hj), List.getElem?_eq_getElem (show j < (L.zip (ms.set i m)).length by rw [List.length_zip, List.length_set, h]; simpa using hj)]
   simp [c]
  ·rw [List.getElem?_eq_none (show (L.zip ms).length ≤ j by rw [List.length_zip, h]; simpa using hj), List.getElem?_eq_none (show (L.zip (ms.set i m)).length ≤ j by rw [List.length_zip, List.length_set, h]; simpa using hj)]
section
variable {w w' : World} {G G' : Tag} {b : Nat} {V : SvV} {S : Sv.St}
def SvM (w : World) (G : Tag) (b : Nat) (V : SvV) (S : Sv.St) (ms : List Bool) (wr : World) : Prop := SvAt wr G b { V with ns := flatN (noteQ S.learnt ms) } S ∧ ms.length = S.learnt.length ∧ Only (fun q => G q = (5, 0)) w wr
theorem SvM.start (H : SvAt w G b V S) : ∃ ms, SvM w G b V S ms w := by
 obtain ⟨ms, h1, h2⟩ := noteQ_cells.1 H.nc
 refine ⟨ms, ?_, h1, Only.refl _ _⟩
 rw [← h2]
 exact H
theorem SvM.only0 {ms : List Bool} {wr : World} (h : SvM w G b V S ms wr) (ho : Only (fun _ => False) wr w') : SvM w G b V S ms w' := ⟨h.1.only0 ho, h.2.1, h.2.2.same (ho.mono fun _ f => f.elim)⟩
theorem SvM.row {ms : List Bool} {wr : World} (h : SvM w G b V S ms wr) : NRow wr V.vl (noteQ S.learnt ms) := by
 have := h.1.learnt.own
 unfold NRow
 rw [noteQ_len h.2.1]
 exact this
theorem SvM.mark {ms : List Bool} {wr : World} (h : SvM w G b V S ms wr) {bl n cl : Nat} (hv : V.vl = .slice (some ⟨bl, 0, none⟩) n cl) {i : Nat} (hi : i < S.learnt.length) (m : Bool) : SvM w G b V S (ms.set i m) (wr.setCell ⟨bl, i * 4 + 3, none⟩ (.bool m)) := by
 obtain ⟨H, hl, ho⟩ := h
 have hvl : ({ V with ns := flatN (noteQ S.learnt ms) } : SvV).vl = .slice (some ⟨bl, 0, none⟩) n cl := hv
 have hrow := H.learnt
 rw [hvl] at hrow
 have hn : n = S.learnt.length := by
  obtain ⟨_, _, he, _, _⟩ := own_slice hrow.own
  simp only [Value.slice.injEq] at he
  exact he.2.1
 subst hn
 have hbl : G bl = (5, 0) := hrow.tg bl rfl
 have o1 : Only (fun q => G q = (5, 0)) wr (wr.setCell ⟨bl, i * 4 + 3, none⟩ (.bool m)) := Only.setCell (Only.refl _ _) (.inl hbl) _
 have hne : ∀ (t : Nat × Nat), t ≠ (5, 0) → ∀ k, G k = t → ¬ G k = (5, 0) := fun t ht k hk => by rw [hk]; exact ht
 have ag : Agree wr G G := Agree.refl _ _
 have st := (hrow.own.stored (i * 4 + 3) (.bool m)).1
 rw [show ({ V with ns := flatN (noteQ S.learnt ms) } : SvV).ns = flatN (noteQ S.learnt ms) from rfl, noteQ_set hl hi m] at st
 refine ⟨⟨only_block H.blk o1 (hne _ (by decide) _ H.tb), H.tb, trail_keep H.trail o1 (hne _ (by decide)) ag, H.heap.keep o1 (hne _ (by decide)) ag, H.pace.only o1 (hne _ (by decide) _ H.tp), H.tp, ⟨?_, fun k hk => hrow.tg k (by rw [← hvl]; exact hk)⟩, noteQ_cells.2 ⟨ms.set i m, by simp [hl], rfl⟩, H.last.keep o1 (hne _ (by decide)) ag, H.ll, H.proof.keep o1 (hne _ (by decide)) ag, H.ul, fun j hj => ?_, H.yb, H.fresh.more o1.size⟩, by simp [hl], ho.same o1⟩
 ·show World.ownsRow _ 0 116 4 V.vl S.learnt.length (flatN (noteQ S.learnt (ms.set i m)))
  rw [hv]
  exact st
 ·obtain ⟨s1, s2⟩ := H.steps j hj
  exact ⟨s1.only' o1 (fun hp k hk hc => by have := s2 hp k hk; rw [hc] at this; exact absurd this (by decide)), s2⟩
theorem SvAt.setL (H : SvAt w G b V S) {w1 : World} {v' : Value} {L' : List Sv.Note} {xs' : List Value} (ho : Only (fun q => G q = (5, 0)) w w1) (hr : w1.ownsRow 0 116 4 v' L'.length xs') (hnc : NoteCells L' xs') (ht : ∀ k, v'.ownBlock = some k → G k = (5, 0)) :
  SvAt (w1.setCell ⟨b, 4, none⟩ v') G b { V with vl := v', ns := xs' } { S with learnt := L' } ∧ Only (Mine G) w (w1.setCell ⟨b, 4, none⟩ v') := by
 have hb1 := only_block H.blk ho (by rw [H.tb]; decide)
 have ho2 : Only (fun q => G q = (5, 0) ∨ q = b) w (w1.setCell ⟨b, 4, none⟩ v') := (ho.mono fun q hq => .inl hq).setCell (.inl (.inr rfl)) _
 have ag : Agree w G G := Agree.refl _ _
 refine ⟨⟨by rw [set_block hb1]; rfl, H.tb, trail_keep H.trail ho2 (H.hne _ (by decide) (by decide)) ag, H.heap.keep ho2 (H.hne _ (by decide) (by decide)) ag, H.pace.only ho2 (H.hne _ (by decide) (by decide) _ H.tp), H.tp, ?_, hnc, H.last.keep ho2 (H.hne _ (by decide) (by decide)) ag, H.ll, H.proof.keep ho2 (H.hne _ (by decide) (by decide)) ag, H.ul, fun j hj => H.steps_keep2 (by decide) ho2 ag hj, H.yb, H.fresh.more ho2.size⟩, ho2.mono (H.hme (by decide))⟩
 exact (⟨hr, ht⟩ : RowZ w1 G (5, 0) 116 4 v' L'.length xs').far (by show G b ≠ (5, 0); rw [H.tb]; decide) v'
end
end Go.Proofs.YtjedgdamommgeaaGreat

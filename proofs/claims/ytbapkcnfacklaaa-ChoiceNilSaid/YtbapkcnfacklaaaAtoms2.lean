/- A table of atoms as an object: its map, its list. -/
import Derived.Test.YtbapkcnfacklaaaAtoms1
import Derived.Test.YtbapkcnfacklaaaAtA
set_option linter.unusedVariables false
namespace Go.Proofs.Ytbapkcnfacklaaa
open Go.RowKit
def cellsA (x : At) : List Value := [.int .u8 x.1, .int .i64 x.2.1, .int .i64 x.2.2.1, .int .i64 x.2.2.2]
def entsFrom : Nat → List At → List MapEntry
 | _, [] => []
 | i, x :: r => ⟨encA x, .int .i64 ((i : Int) + 1), i⟩ :: entsFrom (i + 1) r
theorem entsFrom_len : ∀ (l : List At) (i : Nat), (entsFrom i l).length = l.length
 | [], _ => rfl
 | _ :: r, i => by simp [entsFrom, entsFrom_len r (i + 1)]
theorem entsFrom_get : ∀ (l : List At) (i j : Nat) (h : j < l.length), (entsFrom i l)[j]? = some ⟨encA l[j], .int .i64 (((i + j : Nat) : Int) + 1), i + j⟩
 | [], _, _, h => by simp at h
 | x :: r, i, 0, _ => by simp [entsFrom]
 | x :: r, i, j + 1, h => by
  simp only [entsFrom, List.getElem?_cons_succ]
  rw [entsFrom_get r (i + 1) j (by simpa using h)]
  simp only [List.getElem_cons_succ]
  rw [show i + 1 + j = i + (j + 1) by omega]
theorem entsFrom_app : ∀ (l m : List At) (i : Nat), entsFrom i (l ++ m) = entsFrom i l ++ entsFrom (i + l.length) m
 | [], m, i => by simp [entsFrom]
 | x :: r, m, i => by simp only [List.cons_append, entsFrom, entsFrom_app r m (i + 1), List.length_cons]; rw [show i + 1 + r.length = i + (r.length + 1) by omega]
theorem entsFrom_mem {l : List At} {i : Nat} {y : MapEntry} (h : y ∈ entsFrom i l) : ∃ j, ∃ hj : j < l.length, y = ⟨encA l[j], .int .i64 (((i + j : Nat) : Int) + 1), i + j⟩ := by
 obtain ⟨j, hj, he⟩ := List.getElem_of_mem h
 rw [entsFrom_len] at hj
 have := entsFrom_get l i j hj
 rw [List.getElem?_eq_getElem (by rw [entsFrom_len]; exact hj)] at this
 exact ⟨j, hj, by rw [← he]; exact Option.some.inj this⟩
def numOf (l : List At) (x : At) : Nat := if x ∈ l then l.idxOf x + 1 else 0
def MapIs (w : World) (bm : Nat) (l : List At) : Prop := ∃ es : Array MapEntry, w.heap[bm]? = some (.map es l.length) ∧ es.toList = entsFrom 0 l
theorem look_at {w : World} {bm : Nat} {l : List At} (hm : MapIs w bm l) (hl : ∀ x ∈ l, AtOk x) (hnd : l.Nodup) {x : At} (hx : AtOk x) :
  (Instr.lookup 106 (.map (some bm)) (encA x) false).run Try.prog w = .ok (.int .i64 (numOf l x : Int)) w := by
 obtain ⟨es, hb, he⟩ := hm
 obtain ⟨lx, hkx⟩ := key_at hx
 have hks : ∀ y ∈ es.toList, ∃ l, keyOf Try.prog 37 y.key = some l := by
  intro y hy
  rw [he] at hy
  obtain ⟨j, hj, rfl⟩ := entsFrom_mem hy
  exact key_at (hl _ (List.getElem_mem hj))
 have hz : (zeroValue 3).run Try.prog w = .ok (.int .i64 0) w := by kernel_rfl
 rcases lawAtom.find w hkx es.toList hks with ⟨h1, h2⟩ | ⟨j, y, h1, h2, h3⟩
 ·have hn : x ∉ l := by
   intro hxl
   obtain ⟨j, hj, rfl⟩ := List.getElem_of_mem hxl
   have hg := entsFrom_get l 0 j hj
   exact h2 _ (by rw [he]; exact List.mem_of_getElem? hg) rfl
  simp [Instr.lookup, run_underlying Try.underlying106, MapKept.run_getObj_map hb, lawAtom.check w _ hkx, h1, hz, Result.andThen, numOf, hn]
 ·rw [he] at h2
  obtain ⟨hj0, _⟩ := List.getElem?_eq_some_iff.1 h2
  rw [entsFrom_len] at hj0
  rw [entsFrom_get l 0 j hj0] at h2
  have hy := Option.some.inj h2
  subst hy
  have hxe := encA_inj h3
  have hmem : x ∈ l := by rw [← hxe]; exact List.getElem_mem hj0
  have hid : l.idxOf x = j := by rw [← hxe]; exact List.Nodup.idxOf_getElem hnd j hj0
  simp [Instr.lookup, run_underlying Try.underlying106, MapKept.run_getObj_map hb, lawAtom.check w _ hkx, h1, Result.andThen, numOf, hmem, hid]
theorem store_at {w : World} {bm : Nat} {l : List At} (hm : MapIs w bm l) (hl : ∀ x ∈ l, AtOk x) {x : At} (hx : AtOk x) (hn : x ∉ l) (z : Int) (hz : z = (l.length : Int) + 1) :
  ∃ w', (Instr.mapUpdate 106 (.map (some bm)) (encA x) (.int .i64 z)).run Try.prog w = .ok () w' ∧ MapIs w' bm (l ++ [x]) ∧ Only (fun k => k = bm) w w' := by
 subst hz
 obtain ⟨es, hb, he⟩ := hm
 obtain ⟨lx, hkx⟩ := key_at hx
 have hks : ∀ y ∈ es.toList, ∃ l, keyOf Try.prog 37 y.key = some l := by
  intro y hy
  rw [he] at hy
  obtain ⟨j, hj, rfl⟩ := entsFrom_mem hy
  exact key_at (hl _ (List.getElem_mem hj))
 rcases lawAtom.find w hkx es.toList hks with ⟨h1, h2⟩ | ⟨j, y, h1, h2, h3⟩
 ·refine ⟨{ w with heap := w.heap.setIfInBounds bm (.map (es.push ⟨encA x, .int .i64 ((l.length : Int) + 1), l.length⟩) (l.length + 1)) }, ?_, ⟨es.push ⟨encA x, .int .i64 ((l.length : Int) + 1), l.length⟩, ?_, ?_⟩, ⟨rfl, rfl, rfl, by simp, fun k hk hne => ?_⟩⟩
  ·simp [Instr.mapUpdate, run_underlying Try.underlying106, MapKept.run_getObj_map hb, lawAtom.check w _ hkx, h1, MapKept.run_setObj_map _ hb, Result.andThen]
  ·simp [(Array.getElem?_eq_some_iff.1 hb).1]
  ·simp [he, entsFrom_app, entsFrom]
  ·simp only [Array.getElem?_setIfInBounds]
   rw [if_neg (fun h => hne h.symm)]
 ·exfalso
  rw [he] at h2
  obtain ⟨hj0, _⟩ := List.getElem?_eq_some_iff.1 h2
  rw [entsFrom_len] at hj0
  rw [entsFrom_get l 0 j hj0] at h2
  have hy := Option.some.inj h2
  subst hy
  have hxe := encA_inj h3
  exact hn (by rw [← hxe]; exact List.getElem_mem hj0)
structure Tab where
 l : List At
 limit : Nat
 helps : Nat
 full : Bool
structure TabV where
 bm : Nat
 vl : Value
structure TabAt (w : World) (g : Tag) (b : Nat) (V : TabV) (T : Tab) : Prop where
 blk : w.heap[b]? = some (.cells #[.map (some V.bm), V.vl, .int .i64 T.limit, .int .i64 T.helps, .bool T.full] 109 (0, 0))
 tb : g b = (21, 0)
 map : MapIs w V.bm T.l
 tm : g V.bm = (22, 0)
 l : RowZ w g (23, 0) 37 4 V.vl T.l.length (T.l.flatMap cellsA)
 ok : ∀ x ∈ T.l, AtOk x
 nod : T.l.Nodup
 lim : T.limit ≤ 65536
 hlp : T.helps ≤ 1000000
 len : T.l.length ≤ T.limit
 fresh : Fresh w g
def TabTo (w : World) (g : Tag) (b : Nat) (T : Tab) (w' : World) : Prop := ∃ g' V', TabAt w' g' b V' T ∧ Agree w g g' ∧ Only (Mine g) w w'
theorem MapIs.only {w w' : World} {bm : Nat} {l : List At} (h : MapIs w bm l) {F : Nat → Prop} (ho : Only F w w') (hF : ¬ F bm) : MapIs w' bm l := by
 obtain ⟨es, h1, h2⟩ := h
 exact ⟨es, only_block h1 ho hF, h2⟩
section
variable {w : World} {g : Tag} {b : Nat} {V : TabV} {T : Tab}
theorem TabAt.only (H : TabAt w g b V T) {F : Nat → Prop} {w' : World} (ho : Only F w w') (hF : ∀ k, (g k).1 ≠ 0 → ¬ F k) : TabAt w' g b V T :=
 ⟨only_block H.blk ho (hF b (by rw [H.tb]; simp)), H.tb, H.map.only ho (hF _ (by rw [H.tm]; simp)), H.tm, H.l.only ho (fun k hk => hF k (by rw [hk]; simp)), H.ok, H.nod, H.lim, H.hlp, H.len, H.fresh.more ho.size⟩
theorem TabAt.only0 (H : TabAt w g b V T) {w' : World} (ho : Only (fun _ => False) w w') : TabAt w' g b V T := H.only ho (fun _ _ f => f)
theorem Look_any (H : TabAt w g b V T) {x : At} (hx : AtOk x) (r : Int) (hr : (numOf T.l x : Int) = r) :
  Calls Try.prog 46 #[.pointer (some ⟨b, 0, none⟩), encA x] w fun e w' => e = .returned (.int .i64 r) ∧ Only (fun _ => False) w w' := by
 subst hr
 have q0 : w.cell? ⟨b, 0, none⟩ = some (.map (some V.bm)) := by rw [cell_block H.blk]; rfl
 have hlt := lt_block H.blk
 have hlook : ∀ n, (Instr.lookup 106 (.map (some V.bm)) (.agg #[.int .u8 x.1, .int .i64 x.2.1, .int .i64 x.2.2.1, .int .i64 x.2.2.2]) false).run Try.prog ((w.alloc (.cells #[.int .u8 x.1, .int .i64 x.2.1, .int .i64 x.2.2.1, .int .i64 x.2.2.2] 37)).drewN n) = .ok (.int .i64 (numOf T.l x : Int)) ((w.alloc (.cells #[.int .u8 x.1, .int .i64 x.2.1, .int .i64 x.2.2.1, .int .i64 x.2.2.2] 37)).drewN n) := fun n =>
  look_at ((H.only0 (((Only.refl _ w).alloc _).drewN n)).map) H.ok H.nod hx
 unfold encA
 obtain ⟨k, a, b', c⟩ := x
 simp only at hlook ⊢
 generalize (numOf T.l (k, a, b', c) : Int) = r at *
 go_enter Try.func46, Try.ntmps46
 go_wp2_with fail
 go_quiet (fail)
 go_wp2_with fail
 go_ret
 exact ⟨rfl, ((Only.refl _ w).alloc _).drewN _⟩
end
end Go.Proofs.Ytbapkcnfacklaaa

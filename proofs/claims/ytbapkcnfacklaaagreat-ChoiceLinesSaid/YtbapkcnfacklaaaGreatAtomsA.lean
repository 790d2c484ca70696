/- Atoms1 Atoms2 Atoms3 Atoms4, in one text. -/
import Derived.Test.YtbapkcnfacklaaaGreatBase
import Derived.Maps.Keyed
import Derived.DeepKeys4
import Derived.Test.YtbapkcnfacklaaaGreatAtA
import Derived.Test.YtbapkcnfacklaaaGreatRegs
import Derived.Deep.DrawnRows
set_option linter.unusedVariables false
namespace Go.Proofs.YtbapkcnfacklaaaGreat
open Go.RowKit
abbrev At := Int × Int × Int × Int
def encA (x : At) : Value := .agg #[.int .u8 x.1, .int .i64 x.2.1, .int .i64 x.2.2.1, .int .i64 x.2.2.2]
structure AtOk (x : At) : Prop where
 k : 0 ≤ x.1 ∧ x.1 ≤ 255
 a : InI64 x.2.1
 b : InI64 x.2.2.1
 c : InI64 x.2.2.2
theorem encA_inj {x y : At} (h : encA x = encA y) : x = y := by
 obtain ⟨a, b, c, d⟩ := x
 obtain ⟨a', b', c', d'⟩ := y
 unfold encA at h
 simp at h
 obtain ⟨rfl, rfl, rfl, rfl⟩ := h
 rfl
theorem cellsAtom : Tryz.prog.cellsOf 96 = 4 := by kernel_rfl
theorem cellsInt : Tryz.prog.cellsOf 3 = 1 := by kernel_rfl
theorem cellsU8 : Tryz.prog.cellsOf 5 = 1 := by kernel_rfl
theorem laidOutA : laidOutB Tryz.prog = true := by kernel_rfl
set_option maxRecDepth 100000 in
theorem wideAtom : (match Tryz.prog.underlying 96 with | some (.array _ _) | some (.struct _) => true | _ => false) = true := by rw [Tryz.underlying96]
theorem rowAtom : (96 : TypeId) < Tryz.prog.types.size := of_decide_eq_true (by kernel_rfl)
theorem deepAtom : Tryz.prog.keyTypeAt 2 96 = true := by kernel_rfl
set_option maxRecDepth 100000 in
theorem klAtom : WideMaps.KeyLaw Tryz.prog 96 := deep_law_laid laidOutA (m := 2) (by decide) rowAtom deepAtom wideAtom
theorem lawAtom : Maps.Keyed Tryz.prog 96 := Maps.Keyed.of_law klAtom
theorem keyTypeAtom : Tryz.prog.keyType 96 = true := by kernel_rfl
set_option maxRecDepth 100000 in
theorem formedAtom (x : At) : (encA x).formed Tryz.prog 96 = true := by simp [encA, Value.formed, Tryz.underlying96, cellsAtom]
set_option maxRecDepth 100000 in
theorem key_at {x : At} (h : AtOk x) : ∃ l, keyOf Tryz.prog 96 (encA x) = some l := by
 have hp : ∃ m, Tryz.prog.types.size + 1 = m + 2 := by
  have h0 : (96 : Nat) < Tryz.prog.types.size := rowAtom
  generalize Tryz.prog.types.size = n at *
  exact ⟨n - 1, by omega⟩
 obtain ⟨m, hm⟩ := hp
 have w0 : (Lit.int .u8 x.1).wf = true := WalkArith.wf_u8 (by have := h.k; omega)
 have w1 : (Lit.int .i64 x.2.1).wf = true := WalkArith.wf_i64 (by have := h.a; unfold InI64 at this; omega)
 have w2 : (Lit.int .i64 x.2.2.1).wf = true := WalkArith.wf_i64 (by have := h.b; unfold InI64 at this; omega)
 have w3 : (Lit.int .i64 x.2.2.2).wf = true := WalkArith.wf_i64 (by have := h.c; unfold InI64 at this; omega)
 unfold keyOf
 rw [Tryz.underlying96]
 simp only [keyTypeAtom, formedAtom, Bool.and_self, if_true, hm]
 simp [encA, Program.keyLits, Value.cells, Tryz.underlying96, Tryz.underlying5, Tryz.underlying3, cellsAtom, cellsInt, cellsU8, w0, w1, w2, w3]
def cellsA (x : At) : List Value := [.int .u8 x.1, .int .i64 x.2.1, .int .i64 x.2.2.1, .int .i64 x.2.2.2]
def entsFrom : Nat → List At → List MapEntry
 | _, [] => []
 | i, x :: r => ⟨encA x, .int .i64 ((i : Int) + 1), i⟩ :: entsFrom (i + 1) r
theorem entsFrom_len : ∀ (l : List At) (i : Nat), (entsFrom i l).length = l.length
 | [], _ => rfl
 | _ :: r, i => by simp [entsFrom, entsFrom_len r (i + 1)]
theorem entsFrom_get : ∀ (l : List At) (i j : Nat) (h : j < l.length), (entsFrom i l)[j]? = some ⟨encA l[j], .int .i64 (((i + j : Nat) : Int) + 1), i + j⟩
 | [], _, _, h => by simp at h
 | x :: r, i, 0, _ => by simp [entsFrom]
 | x :: r, i, j + 1, h => by
  simp only [entsFrom, List.getElem?_cons_succ]
  rw [entsFrom_get r (i + 1) j (by simpa using h)]
  simp only [List.getElem_cons_succ]
  rw [show i + 1 + j = i + (j + 1) by omega]
theorem entsFrom_app : ∀ (l m : List At) (i : Nat), entsFrom i (l ++ m) = entsFrom i l ++ entsFrom (i + l.length) m
 | [], m, i => by simp [entsFrom]
 | x :: r, m, i => by simp only [List.cons_append, entsFrom, entsFrom_app r m (i + 1), List.length_cons]; rw [show i + 1 + r.length = i + (r.length + 1) by omega]
theorem entsFrom_mem {l : List At} {i : Nat} {y : MapEntry} (h : y ∈ entsFrom i l) : ∃ j, ∃ hj : j < l.length, y = ⟨encA l[j], .int .i64 (((i + j : Nat) : Int) + 1), i + j⟩ := by
 obtain ⟨j, hj, he⟩ := List.getElem_of_mem h
 rw [entsFrom_len] at hj
 have := entsFrom_get l i j hj
 rw [List.getElem?_eq_getElem (by rw [entsFrom_len]; exact hj)] at this
 exact ⟨j, hj, by rw [← he]; exact Option.some.inj this⟩
def numOf (l : List At) (x : At) : Nat := if x ∈ l then l.idxOf x + 1 else 0
def MapIs (w : World) (bm : Nat) (l : List At) : Prop := ∃ es : Array MapEntry, w.heap[bm]? = some (.map es l.length) ∧ es.toList = entsFrom 0 l
theorem look_at {w : World} {bm : Nat} {l : List At} (hm : MapIs w bm l) (hl : ∀ x ∈ l, AtOk x) (hnd : l.Nodup) {x : At} (hx : AtOk x) :
  (Instr.lookup 111 (.map (some bm)) (encA x) false).run Tryz.prog w = .ok (.int .i64 (numOf l x : Int)) w := by
 obtain ⟨es, hb, he⟩ := hm
 obtain ⟨lx, hkx⟩ := key_at hx
 have hks : ∀ y ∈ es.toList, ∃ l, keyOf Tryz.prog 96 y.key = some l := by
  intro y hy
  rw [he] at hy
  obtain ⟨j, hj, rfl⟩ := entsFrom_mem hy
  exact key_at (hl _ (List.getElem_mem hj))
 have hz : (zeroValue 3).run Tryz.prog w = .ok (.int .i64 0) w := by kernel_rfl
 rcases lawAtom.find w hkx es.toList hks with ⟨h1, h2⟩ | ⟨j, y, h1, h2, h3⟩
 ·have hn : x ∉ l := by
   intro hxl
   obtain ⟨j, hj, rfl⟩ := List.getElem_of_mem hxl
   have hg := entsFrom_get l 0 j hj
   exact h2 _ (by rw [he]; exact List.mem_of_getElem? hg) rfl
  simp [Instr.lookup, run_underlying Tryz.underlying111, MapKept.run_getObj_map hb, lawAtom.check w _ hkx, h1, hz, Result.andThen, numOf, hn]
 ·rw [he] at h2
  obtain ⟨hj0, _⟩ := List.getElem?_eq_some_iff.1 h2
  rw [entsFrom_len] at hj0
  rw [entsFrom_get l 0 j hj0] at h2
  have hy := Option.some.inj h2
  subst hy
  have hxe := encA_inj h3
  have hmem : x ∈ l := by rw [← hxe]; exact List.getElem_mem hj0
  have hid : l.idxOf x = j := by rw [← hxe]; exact List.Nodup.idxOf_getElem hnd j hj0
  simp [Instr.lookup, run_underlying Tryz.underlying111, MapKept.run_getObj_map hb, lawAtom.check w _ hkx, h1, Result.andThen, numOf, hmem, hid]
theorem store_at {w : World} {bm : Nat} {l : List At} (hm : MapIs w bm l) (hl : ∀ x ∈ l, AtOk x) {x : At} (hx : AtOk x) (hn : x ∉ l) (z : Int) (hz : z = (l.length : Int) + 1) :
  ∃ w', (Instr.mapUpdate 111 (.map (some bm)) (encA x) (.int .i64 z)).run Tryz.prog w = .ok () w' ∧ MapIs w' bm (l ++ [x]) ∧ Only (fun k => k = bm) w w' := by
 subst hz
 obtain ⟨es, hb, he⟩ := hm
 obtain ⟨lx, hkx⟩ := key_at hx
 have hks : ∀ y ∈ es.toList, ∃ l, keyOf Tryz.prog 96 y.key = some l := by
  intro y hy
  rw [he] at hy
  obtain ⟨j, hj, rfl⟩ := entsFrom_mem hy
  exact key_at (hl _ (List.getElem_mem hj))
 rcases lawAtom.find w hkx es.toList hks with ⟨h1, h2⟩ | ⟨j, y, h1, h2, h3⟩
 ·refine ⟨{ w with heap := w.heap.setIfInBounds bm (.map (es.push ⟨encA x, .int .i64 ((l.length : Int) + 1), l.length⟩) (l.length + 1)) }, ?_, ⟨es.push ⟨encA x, .int .i64 ((l.length : Int) + 1), l.length⟩, ?_, ?_⟩, ⟨rfl, rfl, rfl, by simp, fun k hk hne => ?_⟩⟩
  ·simp [Instr.mapUpdate, run_underlying Tryz.underlying111, MapKept.run_getObj_map hb, lawAtom.check w _ hkx, h1, MapKept.run_setObj_map _ hb, Result.andThen]
  ·simp [(Array.getElem?_eq_some_iff.1 hb).1]
  ·simp [he, entsFrom_app, entsFrom]
  ·simp only [Array.getElem?_setIfInBounds]
   rw [if_neg (fun h => hne h.symm)]
 ·exfalso
  rw [he] at h2
  obtain ⟨hj0, _⟩ := List.getElem?_eq_some_iff.1 h2
  rw [entsFrom_len] at hj0
  rw [entsFrom_get l 0 j hj0] at h2
  have hy := Option.some.inj h2
  subst hy
  have hxe := encA_inj h3
  exact hn (by rw [← hxe]; exact List.getElem_mem hj0)
structure Tab where
 l : List At
 limit : Nat
 helps : Nat
 full : Bool
structure TabV where
 bm : Nat
 vl : Value
structure TabAt (w : World) (g : Tag) (b : Nat) (V : TabV) (T : Tab) : Prop where
 blk : w.heap[b]? = some (.cells #[.map (some V.bm), V.vl, .int .i64 T.limit, .int .i64 T.helps, .bool T.full] 114 (0, 0))
 tb : g b = (21, 0)
 map : MapIs w V.bm T.l
 tm : g V.bm = (22, 0)
 l : RowZ w g (23, 0) 96 4 V.vl T.l.length (T.l.flatMap cellsA)
 ok : ∀ x ∈ T.l, AtOk x
 nod : T.l.Nodup
 lim : T.limit ≤ 65536
 hlp : T.helps ≤ 1000000
 len : T.l.length ≤ T.limit
 fresh : Fresh w g
def TabTo (w : World) (g : Tag) (b : Nat) (T : Tab) (w' : World) : Prop := ∃ g' V', TabAt w' g' b V' T ∧ Agree w g g' ∧ Only (Mine g) w w'
theorem MapIs.only {w w' : World} {bm : Nat} {l : List At} (h : MapIs w bm l) {F : Nat → Prop} (ho : Only F w w') (hF : ¬ F bm) : MapIs w' bm l := by
 obtain ⟨es, h1, h2⟩ := h
 exact ⟨es, only_block h1 ho hF, h2⟩
section
variable {w : World} {g : Tag} {b : Nat} {V : TabV} {T : Tab}
theorem TabAt.only (H : TabAt w g b V T) {F : Nat → Prop} {w' : World} (ho : Only F w w') (hF : ∀ k, (g k).1 ≠ 0 → ¬ F k) : TabAt w' g b V T :=
 ⟨only_block H.blk ho (hF b (by rw [H.tb]; simp)), H.tb, H.map.only ho (hF _ (by rw [H.tm]; simp)), H.tm, H.l.only ho (fun k hk => hF k (by rw [hk]; simp)), H.ok, H.nod, H.lim, H.hlp, H.len, H.fresh.more ho.size⟩
theorem TabAt.only0 (H : TabAt w g b V T) {w' : World} (ho : Only (fun _ => False) w w') : TabAt w' g b V T := H.only ho (fun _ _ f => f)
theorem Look_any (H : TabAt w g b V T) {x : At} (hx : AtOk x) (r : Int) (hr : (numOf T.l x : Int) = r) :
  Calls Tryz.prog 84 #[.pointer (some ⟨b, 0, none⟩), encA x] w fun e w' => e = .returned (.int .i64 r) ∧ Only (fun _ => False) w w' := by
 subst hr
 have q0 : w.cell? ⟨b, 0, none⟩ = some (.map (some V.bm)) := by rw [cell_block H.blk]; rfl
 have hlt := lt_block H.blk
 have hlook : ∀ n, (Instr.lookup 111 (.map (some V.bm)) (.agg #[.int .u8 x.1, .int .i64 x.2.1, .int .i64 x.2.2.1, .int .i64 x.2.2.2]) false).run Tryz.prog ((w.alloc (.cells #[.int .u8 x.1, .int .i64 x.2.1, .int .i64 x.2.2.1, .int .i64 x.2.2.2] 96)).drewN n) = .ok (.int .i64 (numOf T.l x : Int)) ((w.alloc (.cells #[.int .u8 x.1, .int .i64 x.2.1, .int .i64 x.2.2.1, .int .i64 x.2.2.2] 96)).drewN n) := fun n =>
  look_at ((H.only0 (((Only.refl _ w).alloc _).drewN n)).map) H.ok H.nod hx
 unfold encA
 obtain ⟨k, a, b', c⟩ := x
 simp only at hlook ⊢
 generalize (numOf T.l (k, a, b', c) : Int) = r at *
 go_enter Tryz.func84, Tryz.ntmps84
 go_wp2_with fail
 go_quiet (fail)
 go_wp2_with fail
 go_ret
 exact ⟨rfl, ((Only.refl _ w).alloc _).drewN _⟩
end
attribute [local go_sem ↓] Go.wp_at_zero Go.wp_at_succ
theorem slAtom : SlT Tryz.prog 112 96 4 32 := SlT.mk' (z := .agg #[.int .u8 0, .int .i64 0, .int .i64 0, .int .i64 0]) Tryz.underlying112 (by kernel_rfl) rfl (by decide)
def Tab.num (T : Tab) (x : At) : Tab × Int :=
 if x ∈ T.l then (T, (numOf T.l x : Int)) else if T.limit ≤ T.l.length then ({ T with full := true }, 0) else ({ T with l := T.l ++ [x] }, (T.l.length : Int) + 1)
section
variable {w : World} {g : Tag} {b : Nat} {V : TabV} {T : Tab}
theorem TabTo.refl (H : TabAt w g b V T) : TabTo w g b T w := ⟨g, V, H, Agree.refl _ _, Only.refl _ _⟩
theorem TabTo.after {w1 w2 : World} (o1 : Only (fun _ => False) w w1) {T2 : Tab} (h : TabTo w1 g b T2 w2) : TabTo w g b T2 w2 := by
 obtain ⟨g2, V2, H2, A2, O2⟩ := h
 exact ⟨g2, V2, H2, fun k hk => A2 k (Nat.lt_of_lt_of_le hk o1.size), (o1.mono (G := Mine g) fun _ f => f.elim).mine (Agree.refl _ _) O2⟩
theorem numOf_zero {l : List At} {x : At} : numOf l x = 0 ↔ x ∉ l := by
 unfold numOf
 split
 ·rename_i h; simp [h]
 ·rename_i h; simp [h]
set_option maxHeartbeats 1600000 in
theorem Number_old (H : TabAt w g b V T) {x : At} (hx : AtOk x) (hm : x ∈ T.l) :
  Calls Tryz.prog 57 #[.pointer (some ⟨b, 0, none⟩), encA x] w fun e w' => e = .returned (.int .i64 (numOf T.l x : Int)) ∧ TabTo w g b T w' := by
 have hO0 : Only (fun _ => False) w (w.alloc (.cells #[.int .u8 x.1, .int .i64 x.2.1, .int .i64 x.2.2.1, .int .i64 x.2.2.2] 96)) := (Only.refl _ _).alloc _
 have hl := Look_any (H.only0 hO0) hx _ rfl
 unfold encA at *
 have hpos : 0 < (numOf T.l x : Int) := by
  have : numOf T.l x ≠ 0 := fun h => (numOf_zero.1 h) hm
  omega
 have HL := Lib.hid hl
 have hto : ∀ w', Only (fun _ => False) (w.alloc (.cells #[.int .u8 x.1, .int .i64 x.2.1, .int .i64 x.2.2.1, .int .i64 x.2.2.2] 96)) w' → TabTo w g b T w' := fun w' h => TabTo.after (hO0.same h) (TabTo.refl (H.only0 (hO0.same h)))
 have HTo := Lib.hid hto
 clear hl hto hO0
 generalize (numOf T.l x : Int) = r at *
 have d1 : decide (0 < r) = true := decide_eq_true hpos
 go_enter Tryz.func57, Tryz.ntmps57
 go_wp2_with fail
 refine HL.out.mono ?_
 rintro e w' ⟨rfl, O1⟩
 have hfin := HTo.out _ O1
 clear O1 HTo
 go_wp2_with fail
 go_ret
 exact ⟨rfl, hfin⟩
theorem TabAt.setFull (H : TabAt w g b V T) : TabTo w g b { T with full := true } (w.setCell ⟨b, 4, none⟩ (.bool true)) := by
 have hF : ∀ {t : Nat × Nat}, t ≠ (21, 0) → g b ≠ t := fun {t} h e => h (e.symm.trans H.tb)
 have ho : Only (fun k => k = b) w (w.setCell ⟨b, 4, none⟩ (.bool true)) := Only.setCell (Only.refl (fun k => k = b) w) (p := ⟨b, 4, none⟩) (.inl rfl) _
 refine ⟨g, V, ⟨?_, H.tb, H.map.only ho (fun e => by have := H.tm; rw [e, H.tb] at this; simp at this), H.tm, H.l.far (hF (by decide)) _, H.ok, H.nod, H.lim, H.hlp, H.len, H.fresh.more ho.size⟩, Agree.refl _ _, (Only.refl _ w).setCell (.inl (by unfold Mine; rw [H.tb]; decide)) _⟩
 rw [set_block H.blk]; rfl
set_option maxHeartbeats 1600000 in
theorem Number_full (H : TabAt w g b V T) {x : At} (hx : AtOk x) (hm : x ∉ T.l) (hf : T.limit ≤ T.l.length) :
  Calls Tryz.prog 57 #[.pointer (some ⟨b, 0, none⟩), encA x] w fun e w' => e = .returned (.int .i64 0) ∧ TabTo w g b { T with full := true } w' := by
 have hO0 : Only (fun _ => False) w (w.alloc (.cells #[.int .u8 x.1, .int .i64 x.2.1, .int .i64 x.2.2.1, .int .i64 x.2.2.2] 96)) := (Only.refl _ _).alloc _
 have hl := Look_any (H.only0 hO0) hx 0 (by rw [numOf_zero.2 hm]; rfl)
 unfold encA at *
 have HL := Lib.hid hl
 have HO0 := Lib.hid hO0
 clear hl hO0
 have hlen := H.len
 have hlim := H.lim
 go_enter Tryz.func57, Tryz.ntmps57
 go_wp2_with fail
 refine HL.out.mono ?_
 rintro e w1 ⟨rfl, O1⟩
 have hO1 := HO0.out.same O1
 have H1 := H.only0 hO1
 have q1 : w1.cell? ⟨b, 1, none⟩ = some V.vl := by rw [cell_block H1.blk]; rfl
 have q2 : w1.cell? ⟨b, 2, none⟩ = some (.int .i64 T.limit) := by rw [cell_block H1.blk]; rfl
 have q4 : w1.cell? ⟨b, 4, none⟩ = some (.bool T.full) := by rw [cell_block H1.blk]; rfl
 have f4 := free_block H1.blk 4
 obtain ⟨al, cl, hvl, _, _⟩ := own_slice H1.l.own
 rw [hvl] at q1
 have d1 : decide ((T.l.length : Int) ≥ (T.limit : Int)) = true := decide_eq_true (by omega)
 have d2 : decide (T.limit ≤ T.l.length) = true := decide_eq_true hf
 have hfin : ∀ n, TabTo w g b { T with full := true } ((w1.setCell ⟨b, 4, none⟩ (.bool true)).drewN n) := fun n => TabTo.after (hO1.drewN n) ((H1.only0 ((Only.refl _ _).drewN n)).setFull)
 have HFin := Lib.hid hfin
 have sd : ∀ (W : World) n a v, (W.drewN n).setCell a v = (W.setCell a v).drewN n := fun _ _ _ _ => rfl
 clear O1 hfin
 go_wp2_with fail
 go_quiet (fail)
 go_wp2_with fail
 go_ret
 exact ⟨rfl, HFin.out _⟩
theorem TabAt.mid (H : TabAt w g b V T) {w5 : World} (O : Only (fun k => g k = (23, 0)) w w5) (v' : Value) :
  (w5.setCell ⟨b, 1, none⟩ v').heap[b]? = some (.cells #[.map (some V.bm), v', .int .i64 T.limit, .int .i64 T.helps, .bool T.full] 114 (0, 0)) ∧ MapIs (w5.setCell ⟨b, 1, none⟩ v') V.bm T.l := by
 refine ⟨?_, ?_⟩
 ·rw [set_block (only_block H.blk O (by rw [H.tb]; simp))]; rfl
 ·refine (H.map.only O (by rw [H.tm]; simp)).only (F := fun k => k = b) (Only.setCell (Only.refl (fun k => k = b) w5) (p := ⟨b, 1, none⟩) (.inl rfl) _) (fun e => ?_)
  have := H.tm; rw [e, H.tb] at this; simp at this
theorem TabAt.grow (H : TabAt w g b V T) {x : At} (hx : AtOk x) (hm : x ∉ T.l) (hf : T.l.length < T.limit) {w5 w6 : World} {lo : Nat} {v' : Value} (O : Only (fun k => g k = (23, 0)) w w5) (hlo : w.heap.size ≤ lo)
  (R : RowZ w5 (Tag.put g lo w5.heap.size (23, 0)) (23, 0) 96 4 v' (T.l.length + 1) (T.l.flatMap cellsA ++ cellsA x))
  (M : MapIs w6 V.bm (T.l ++ [x])) (O6 : Only (fun k => k = V.bm) (w5.setCell ⟨b, 1, none⟩ v').drew w6) : TabTo w g b { T with l := T.l ++ [x] } w6 := by
 obtain ⟨h1, h2⟩ := H.mid O v'
 have hb := lt_block H.blk
 have hbm : V.bm < w.heap.size := by obtain ⟨es, h, _⟩ := H.map; exact lt_block h
 have hgb : Tag.put g lo w5.heap.size (23, 0) b = (21, 0) := by rw [Tag.put_old _ _ (by omega)]; exact H.tb
 have hgm : Tag.put g lo w5.heap.size (23, 0) V.bm = (22, 0) := by rw [Tag.put_old _ _ (by omega)]; exact H.tm
 have hs6 : w5.heap.size ≤ w6.heap.size := by have := O6.size; simpa using this
 refine ⟨Tag.put g lo w5.heap.size (23, 0), ⟨V.bm, v'⟩, ⟨?_, hgb, M, hgm, ?_, ?_, ?_, H.lim, H.hlp, by simp; omega, ?_⟩, Agree.put _ _ hlo, ?_⟩
 ·refine only_block (F := fun k => k = V.bm) (w := (w5.setCell ⟨b, 1, none⟩ v').drew) h1 O6 (fun e => ?_)
  rw [e, hgm] at hgb; simp at hgb
 ·have := ((R.far (p := ⟨b, 1, none⟩) (by rw [hgb]; simp) v').drew).only O6 (fun k hk e => by rw [e, hgm] at hk; simp at hk)
  simpa [List.flatMap_append] using this
 ·intro y hy
  rcases List.mem_append.1 hy with h | h
  ·exact H.ok y h
  ·rw [List.mem_singleton.1 h]; exact hx
 ·refine List.nodup_append.2 ⟨H.nod, by simp, fun a ha c hc e => ?_⟩
  rw [List.mem_singleton.1 hc] at e
  exact hm (e ▸ ha)
 ·exact (H.fresh.put _ O.size).more hs6
 ·have o1 : Only (Mine g) w (w5.setCell ⟨b, 1, none⟩ v').drew := ((O.mono (G := Mine g) fun k hk => by unfold Mine; rw [hk]; decide).setCell (.inl (by unfold Mine; rw [H.tb]; decide)) _).drew
  exact o1.same (O6.mono fun k hk => by subst hk; unfold Mine; rw [H.tm]; decide)
set_option maxRecDepth 100000 in
set_option maxHeartbeats 3200000 in
theorem Number_new (H : TabAt w g b V T) {x : At} (hx : AtOk x) (hm : x ∉ T.l) (hf : T.l.length < T.limit) :
  Calls Tryz.prog 57 #[.pointer (some ⟨b, 0, none⟩), encA x] w fun e w' => e = .returned (.int .i64 ((T.l.length : Int) + 1)) ∧ TabTo w g b { T with l := T.l ++ [x] } w' := by
 have hO0 : Only (fun _ => False) w (w.alloc (.cells #[.int .u8 x.1, .int .i64 x.2.1, .int .i64 x.2.2.1, .int .i64 x.2.2.2] 96)) := (Only.refl _ _).alloc _
 have hl := Look_any (H.only0 hO0) hx 0 (by rw [numOf_zero.2 hm]; rfl)
 have hbx : ∀ i, (w.alloc (.cells #[.int .u8 x.1, .int .i64 x.2.1, .int .i64 x.2.2.1, .int .i64 x.2.2.2] 96)).cell? ⟨w.heap.size, i, none⟩ = (#[.int .u8 x.1, .int .i64 x.2.1, .int .i64 x.2.2.1, .int .i64 x.2.2.2] : Array Value)[i]? := fun i => cell_block (heap_alloc_new w _) i
 unfold encA at *
 have HL := Lib.hid hl
 have HO0 := Lib.hid hO0
 have HBx := Lib.hid hbx
 have HMem := Lib.hid hm
 have HX := Lib.hid hx
 clear hl hO0 hbx hm hx
 have hlen := H.len
 have hlim := H.lim
 obtain ⟨xk, xa, xb, xc⟩ := x
 simp only at HL HO0 HBx ⊢
 go_enter Tryz.func57, Tryz.ntmps57
 go_wp2_with fail
 generalize hW0 : w.alloc (.cells #[.int .u8 xk, .int .i64 xa, .int .i64 xb, .int .i64 xc] 96) = w0 at *
 generalize hBB : w.heap.size = B at *
 refine HL.out.mono ?_
 rintro e w1 ⟨rfl, O1⟩
 have hO1 := HO0.out.same O1
 have H1 := H.only0 hO1
 have q1 : w1.cell? ⟨b, 1, none⟩ = some V.vl := by rw [cell_block H1.blk]; rfl
 have q2 : w1.cell? ⟨b, 2, none⟩ = some (.int .i64 T.limit) := by rw [cell_block H1.blk]; rfl
 have f1 := free_block H1.blk 1
 have x0 : w1.cell? ⟨B, 0, none⟩ = some (.int .u8 xk) := cell_keep (HBx.out 0) O1 (fun f => f)
 have x1 : w1.cell? ⟨B, 1, none⟩ = some (.int .i64 xa) := cell_keep (HBx.out 1) O1 (fun f => f)
 have x2 : w1.cell? ⟨B, 2, none⟩ = some (.int .i64 xb) := cell_keep (HBx.out 2) O1 (fun f => f)
 have x3 : w1.cell? ⟨B, 3, none⟩ = some (.int .i64 xc) := cell_keep (HBx.out 3) O1 (fun f => f)
 have hgB : (g B).1 = 0 := by rw [← hBB]; exact H.fresh _ (Nat.le_refl _)
 have hlr := H1.l
 obtain ⟨al, cl, hvl, _, _⟩ := own_slice H1.l.own
 rw [hvl] at q1 hlr
 have d2 : decide (T.limit ≤ T.l.length) = false := decide_eq_false (by omega)
 clear hW0 hBB HL
 go_wp2_with fail
 go_quiet (fail)
 go_wp2_with fail
 have hlr0 := hlr.drewN nq
 have hO1' := hO1.drewN nq
 have q1' : (w1.drewN nq).cell? ⟨b, 1, none⟩ = some (.slice al T.l.length cl) := q1
 have f1' : (w1.drewN nq).frozen? ⟨b, 1, none⟩ = false := f1
 have x0' : (w1.drewN nq).cell? ⟨B, 0, none⟩ = some (.int .u8 xk) := x0
 have x1' : (w1.drewN nq).cell? ⟨B, 1, none⟩ = some (.int .i64 xa) := x1
 have x2' : (w1.drewN nq).cell? ⟨B, 2, none⟩ = some (.int .i64 xb) := x2
 have x3' : (w1.drewN nq).cell? ⟨B, 3, none⟩ = some (.int .i64 xc) := x3
 have H1' := H1.only0 ((Only.refl (fun _ => False) w1).drewN nq)
 clear q1 f1 x0 x1 x2 x3 H1 q2 hlr
 generalize hW1 : w1.drewN nq = w2 at *
 have hS5 : ∀ o w5, Only (fun k => g k = (23, 0)) (w2.alloc o).drew w5 → w5.cell? ⟨b, 1, none⟩ = some (.slice al T.l.length cl) ∧ w5.frozen? ⟨b, 1, none⟩ = false ∧ w5.cell? ⟨B, 0, none⟩ = some (.int .u8 xk) ∧ w5.cell? ⟨B, 1, none⟩ = some (.int .i64 xa) ∧ w5.cell? ⟨B, 2, none⟩ = some (.int .i64 xb) ∧ w5.cell? ⟨B, 3, none⟩ = some (.int .i64 xc) := by
  intro o w5 h
  have hx5 : Only (fun k => g k = (23, 0)) w2 w5 := Only.same (((Only.refl _ w2).alloc o).drew) h
  have hb1 : ¬ g b = (23, 0) := by rw [H1'.tb]; simp
  have hb2 : ¬ g B = (23, 0) := by intro e; rw [e] at hgB; simp at hgB
  exact ⟨cell_keep q1' hx5 hb1, free_keep q1' f1' hx5 hb1, cell_keep x0' hx5 hb2, cell_keep x1' hx5 hb2, cell_keep x2' hx5 hb2, cell_keep x3' hx5 hb2⟩
 have HS5 := Lib.hid hS5
 clear hS5
 have hfz : ∀ o, (w2.alloc o).frozen? ⟨b, 1, none⟩ = false := fun o => free_keep q1' f1' ((Only.refl (fun _ => False) w2).alloc o) (fun f => f)
 refine wp_region_last2 (n := 10) (S := fun w' => w'.cell? ⟨b, 1, none⟩ = some (.slice al T.l.length cl) ∧ w'.frozen? ⟨b, 1, none⟩ = false ∧ w'.cell? ⟨B, 0, none⟩ = some (.int .u8 xk) ∧ w'.cell? ⟨B, 1, none⟩ = some (.int .i64 xa) ∧ w'.cell? ⟨B, 2, none⟩ = some (.int .i64 xb) ∧ w'.cell? ⟨B, 3, none⟩ = some (.int .i64 xc)) (by kernel_rfl) rfl (by kernel_rfl) ⟨q1', f1', x0', x1', x2', x3'⟩ (fun hHeld => ?_)
 refine wpAnyH_take (i := 0) (v := ?_) rfl (by kernel_rfl) (by kernel_rfl) (by kernel_rfl) (fun _ _ _ h => h) (Or.inl ⟨by rfl, ?_⟩) (by assumption) ?_
 rotate_left
 ·(intro w hSw; (try dsimp only at hSw); go_simp <;> (try with_reducible rfl))
 try simp only [Act.put, zq1, zq2, zq3, zq4, zq5, zq6]
 refine wpAnyH_take (i := 1) (v := ?_) rfl (by kernel_rfl) (by kernel_rfl) (by kernel_rfl) (fun _ _ _ h => h) (Or.inl ⟨by rfl, ?_⟩) (by assumption) ?_
 rotate_left
 ·(intro w hSw; (try dsimp only at hSw); go_simp <;> (try with_reducible rfl))
 try simp only [Act.put, zq1, zq2, zq3, zq4, zq5, zq6]
 refine wpAnyH_take (i := 2) (v := ?_) rfl (by kernel_rfl) (by kernel_rfl) (by kernel_rfl) (fun _ _ _ h => h) (Or.inl ⟨by rfl, ?_⟩) (by assumption) ?_
 rotate_left
 ·(intro w hSw; (try dsimp only at hSw); go_simp <;> (try with_reducible rfl))
 try simp only [Act.put, zq1, zq2, zq3, zq4, zq5, zq6]
 refine wpAnyH_take (i := 3) (v := ?_) rfl (by kernel_rfl) (by kernel_rfl) (by kernel_rfl) (fun _ _ _ h => h) (Or.inl ⟨by rfl, ?_⟩) (by assumption) ?_
 rotate_left
 ·(intro w hSw; (try dsimp only at hSw); go_simp <;> (try with_reducible rfl))
 try simp only [Act.put, zq1, zq2, zq3, zq4, zq5, zq6]
 refine wpAnyH_take (i := 4) (v := ?_) rfl (by kernel_rfl) (by kernel_rfl) (by kernel_rfl) (fun _ _ _ h => h) (Or.inl ⟨by rfl, ?_⟩) (by assumption) ?_
 rotate_left
 ·(intro w hSw; (try dsimp only at hSw); go_simp <;> (try with_reducible rfl))
 try simp only [Act.put, zq1, zq2, zq3, zq4, zq5, zq6]
 refine wpAnyH_take (i := 5) (v := ?_) rfl (by kernel_rfl) (by kernel_rfl) (by kernel_rfl) (fun _ _ _ h => h) (Or.inl ⟨by rfl, ?_⟩) (by assumption) ?_
 rotate_left
 ·(intro w hSw; (try dsimp only at hSw); go_simp <;> (try with_reducible rfl))
 try simp only [Act.put, zq1, zq2, zq3, zq4, zq5, zq6]
 refine wpAnyH_ready (rs := [6]) (by kernel_rfl) (by simp) ?_
 refine AllReadyH.cons (i := 6) rfl (fun K hK => ?_) ?_
 ·go_simp
  refine hK.out _ _ ?_ (fun hHeld => ?_)
  ·(try dsimp only) <;> (first | (go_keep; done) | exact HS5.out _ _ rr2)
  clear hK K
  try simp only [Act.put, zq1, zq2, zq3, zq4, zq5, zq6]
  refine wpAnyH_ready (rs := [7]) (by kernel_rfl) (by simp) ?_
  refine AllReadyH.cons (i := 7) rfl (fun K hK => ?_) ?_
  ·(refine RowZ.step (us := cellsA (xk, xa, xb, xc)) slAtom (by rfl) (.tmp 35) (.tmp 37) (by rfl) (by rfl) (by rfl) rfl (by intro j hj; match j, hj with | 0, _ => simp [cellsA] | 1, _ => simp [cellsA] | 2, _ => simp [cellsA] | 3, _ => simp [cellsA]) (by simp [cellsA, Value.oneCell']) (by repeat (first | exact hlr0 | apply RowZ.drew | apply RowZ.alloc | apply RowZ.drewN)) (by omega) (by decide) ?_; intro bb cap w5 rr1 rr2)
   refine hK.out _ _ ?_ (fun hHeld => ?_)
   ·(try dsimp only) <;> (first | (go_keep; done) | exact HS5.out _ _ rr2)
   clear hK K
   try simp only [Act.put, zq1, zq2, zq3, zq4, zq5, zq6]
   refine wpAnyH_take (i := 8) (v := ?_) rfl (by kernel_rfl) (by kernel_rfl) (by kernel_rfl) (fun _ _ _ h => h) (Or.inl ⟨by rfl, ?_⟩) (by assumption) ?_
   rotate_left
   ·(intro w hSw; (try dsimp only at hSw); go_simp <;> (try with_reducible rfl))
   try simp only [Act.put, zq1, zq2, zq3, zq4, zq5, zq6]
   refine wpAnyH_take (i := 9) (v := ?_) rfl (by kernel_rfl) (by kernel_rfl) (by kernel_rfl) (fun _ _ _ h => h) (Or.inl ⟨by rfl, ?_⟩) (by assumption) ?_
   rotate_left
   ·(intro w hSw; (try dsimp only at hSw); go_simp <;> (try with_reducible rfl))
   try simp only [Act.put, zq1, zq2, zq3, zq4, zq5, zq6]
   refine wpAnyH_done (by kernel_rfl) ?_ _
   show wpList _ _ _ _ _ _
   obtain ⟨c1, c2, c3, c4, c5, c6⟩ := hHeld
   have hO5 : Only (fun k => g k = (23, 0)) w2 w5 := Only.same (((Only.refl _ w2).alloc _).drew) rr2
   have hlo : w2.heap.size ≤ (w2.alloc (.cells #[.int .u8 xk, .int .i64 xa, .int .i64 xb, .int .i64 xc] 96)).drew.heap.size := by simp
   obtain ⟨b7, m7⟩ := H1'.mid hO5 (.slice (some ⟨bb, 0, none⟩) (T.l.length + 1) cap)
   have hbB : b ≠ B := by intro e; rw [← e, H1'.tb] at hgB; simp at hgB
   have e3 := (World.cell?_setCell_far w5 ⟨b, 1, none⟩ ⟨B, 0, none⟩ (.slice (some ⟨bb, 0, none⟩) (T.l.length + 1) cap) hbB).trans c3
   have e4 := (World.cell?_setCell_far w5 ⟨b, 1, none⟩ ⟨B, 1, none⟩ (.slice (some ⟨bb, 0, none⟩) (T.l.length + 1) cap) hbB).trans c4
   have e5 := (World.cell?_setCell_far w5 ⟨b, 1, none⟩ ⟨B, 2, none⟩ (.slice (some ⟨bb, 0, none⟩) (T.l.length + 1) cap) hbB).trans c5
   have e6 := (World.cell?_setCell_far w5 ⟨b, 1, none⟩ ⟨B, 3, none⟩ (.slice (some ⟨bb, 0, none⟩) (T.l.length + 1) cap) hbB).trans c6
   have p0 : (w5.setCell ⟨b, 1, none⟩ (.slice (some ⟨bb, 0, none⟩) (T.l.length + 1) cap)).cell? ⟨b, 0, none⟩ = some (.map (some V.bm)) := by rw [cell_block b7]; rfl
   have p1 : (w5.setCell ⟨b, 1, none⟩ (.slice (some ⟨bb, 0, none⟩) (T.l.length + 1) cap)).cell? ⟨b, 1, none⟩ = some (.slice (some ⟨bb, 0, none⟩) (T.l.length + 1) cap) := by rw [cell_block b7]; rfl
   have hgrow : ∀ w6, MapIs w6 V.bm (T.l ++ [(xk, xa, xb, xc)]) → Only (fun k => k = V.bm) (w5.setCell ⟨b, 1, none⟩ (.slice (some ⟨bb, 0, none⟩) (T.l.length + 1) cap)).drew w6 → TabTo w g b { T with l := T.l ++ [(xk, xa, xb, xc)] } w6 ∧ w6.cell? ⟨b, 1, none⟩ = some (.slice (some ⟨bb, 0, none⟩) (T.l.length + 1) cap) := fun w6 h1 h2 => ⟨TabTo.after hO1' (H1'.grow HX.out HMem.out hf hO5 hlo rr1 h1 h2), cell_keep p1 (F := fun k => k = V.bm) (Only.same ((Only.refl _ _).drew) h2) (fun e => by have := H1'.tm; rw [← show b = V.bm from e, H1'.tb] at this; simp at this)⟩
   have HGrow := Lib.hid hgrow
   have HOk := Lib.hid H1'.ok
   have hq : (((w5.setCell ⟨b, 1, none⟩ (.slice (some ⟨bb, 0, none⟩) (T.l.length + 1) cap)).drew).heap) = ((w5.setCell ⟨b, 1, none⟩ (.slice (some ⟨bb, 0, none⟩) (T.l.length + 1) cap)).heap) := rfl
   have M7 := Lib.hid m7
   clear hgrow rr1 rr2 hO5 hlo b7 c3 c4 c5 c6 HS5 hlr0 H1' H m7 hq
   go_wp2_with fail
   generalize hw3 : w5.setCell ⟨b, 1, none⟩ (.slice (some ⟨bb, 0, none⟩) (T.l.length + 1) cap) = w3 at *
   refine wp_region_last2 (n := 10) (S := fun w' => w'.cell? ⟨b, 0, none⟩ = some (.map (some V.bm)) ∧ w'.cell? ⟨b, 1, none⟩ = some (.slice (some ⟨bb, 0, none⟩) (T.l.length + 1) cap) ∧ w'.cell? ⟨B, 0, none⟩ = some (.int .u8 xk) ∧ w'.cell? ⟨B, 1, none⟩ = some (.int .i64 xa) ∧ w'.cell? ⟨B, 2, none⟩ = some (.int .i64 xb) ∧ w'.cell? ⟨B, 3, none⟩ = some (.int .i64 xc)) (by kernel_rfl) rfl (by kernel_rfl) ⟨p0, p1, e3, e4, e5, e6⟩ (fun hHeld => ?_)
   refine wpAnyH_take (i := 0) (v := ?_) rfl (by kernel_rfl) (by kernel_rfl) (by kernel_rfl) (fun _ _ _ h => h) (Or.inl ⟨by rfl, ?_⟩) (by assumption) ?_
   rotate_left
   ·(intro w hSw; (try dsimp only at hSw); go_simp <;> (try with_reducible rfl))
   try simp only [Act.put, zq1, zq2, zq3, zq4, zq5, zq6]
   refine wpAnyH_take (i := 1) (v := ?_) rfl (by kernel_rfl) (by kernel_rfl) (by kernel_rfl) (fun _ _ _ h => h) (Or.inl ⟨by rfl, ?_⟩) (by assumption) ?_
   rotate_left
   ·(intro w hSw; (try dsimp only at hSw); go_simp <;> (try with_reducible rfl))
   try simp only [Act.put, zq1, zq2, zq3, zq4, zq5, zq6]
   refine wpAnyH_take (i := 2) (v := ?_) rfl (by kernel_rfl) (by kernel_rfl) (by kernel_rfl) (fun _ _ _ h => h) (Or.inl ⟨by rfl, ?_⟩) (by assumption) ?_
   rotate_left
   ·(intro w hSw; (try dsimp only at hSw); go_simp <;> (try with_reducible rfl))
   try simp only [Act.put, zq1, zq2, zq3, zq4, zq5, zq6]
   refine wpAnyH_take (i := 3) (v := ?_) rfl (by kernel_rfl) (by kernel_rfl) (by kernel_rfl) (fun _ _ _ h => h) (Or.inl ⟨by rfl, ?_⟩) (by assumption) ?_
   rotate_left
   ·(intro w hSw; (try dsimp only at hSw); go_simp <;> (try with_reducible rfl))
   try simp only [Act.put, zq1, zq2, zq3, zq4, zq5, zq6]
   refine wpAnyH_take (i := 4) (v := ?_) rfl (by kernel_rfl) (by kernel_rfl) (by kernel_rfl) (fun _ _ _ h => h) (Or.inl ⟨by rfl, ?_⟩) (by assumption) ?_
   rotate_left
   ·(intro w hSw; (try dsimp only at hSw); go_simp <;> (try with_reducible rfl))
   try simp only [Act.put, zq1, zq2, zq3, zq4, zq5, zq6]
   refine wpAnyH_take (i := 5) (v := ?_) rfl (by kernel_rfl) (by kernel_rfl) (by kernel_rfl) (fun _ _ _ h => h) (Or.inl ⟨by rfl, ?_⟩) (by assumption) ?_
   rotate_left
   ·(intro w hSw; (try dsimp only at hSw); go_simp <;> (try with_reducible rfl))
   try simp only [Act.put, zq1, zq2, zq3, zq4, zq5, zq6]
   refine wpAnyH_take (i := 6) (v := ?_) rfl (by kernel_rfl) (by kernel_rfl) (by kernel_rfl) (fun _ _ _ h => h) (Or.inl ⟨by rfl, ?_⟩) (by assumption) ?_
   rotate_left
   ·(intro w hSw; (try dsimp only at hSw); go_simp <;> (try with_reducible rfl))
   try simp only [Act.put, zq1, zq2, zq3, zq4, zq5, zq6]
   refine wpAnyH_take (i := 7) (v := ?_) rfl (by kernel_rfl) (by kernel_rfl) (by kernel_rfl) (fun _ _ _ h => h) (Or.inl ⟨by rfl, ?_⟩) (by assumption) ?_
   rotate_left
   ·(intro w hSw; (try dsimp only at hSw); go_simp <;> (try with_reducible rfl))
   try simp only [Act.put, zq1, zq2, zq3, zq4, zq5, zq6]
   refine wpAnyH_take (i := 8) (v := ?_) rfl (by kernel_rfl) (by kernel_rfl) (by kernel_rfl) (fun _ _ _ h => h) (Or.inl ⟨by rfl, ?_⟩) (by assumption) ?_
   rotate_left
   ·(intro w hSw; (try dsimp only at hSw); go_simp <;> (try with_reducible rfl))
   try simp only [Act.put, zq1, zq2, zq3, zq4, zq5, zq6]
   refine wpAnyH_take (i := 9) (v := ?_) rfl (by kernel_rfl) (by kernel_rfl) (by kernel_rfl) (fun _ _ _ h => h) (Or.inl ⟨by rfl, ?_⟩) (by assumption) ?_
   rotate_left
   ·(intro w hSw; (try dsimp only at hSw); go_simp <;> (try with_reducible rfl))
   try simp only [Act.put, zq1, zq2, zq3, zq4, zq5, zq6]
   refine wpAnyH_done (by kernel_rfl) ?_ _
   show wpList _ _ _ _ _ _
   obtain ⟨w6, hmu, hm6, ho6⟩ := store_at (w := w3.drew) (bm := V.bm) (l := T.l) (by exact M7.out) HOk.out HX.out HMem.out ((T.l.length : Int) + 1) rfl
   obtain ⟨hfin, z1⟩ := HGrow.out w6 hm6 ho6
   unfold encA at hmu
   simp only at hmu
   clear HGrow M7 hm6 ho6
   go_wp2_with fail
   go_ret
   exact ⟨rfl, hfin⟩
  exact AllReadyH.nil
 exact AllReadyH.nil
theorem Number_any (H : TabAt w g b V T) {x : At} (hx : AtOk x) (r : Int) (hr : (T.num x).2 = r) :
  Calls Tryz.prog 57 #[.pointer (some ⟨b, 0, none⟩), encA x] w fun e w' => e = .returned (.int .i64 r) ∧ TabTo w g b (T.num x).1 w' := by
 subst hr
 unfold Tab.num
 by_cases h1 : x ∈ T.l
 ·rw [if_pos h1]; exact Number_old H hx h1
 ·rw [if_neg h1]
  by_cases h2 : T.limit ≤ T.l.length
  ·rw [if_pos h2]; exact Number_full H hx h1 h2
  ·rw [if_neg h2]; exact Number_new H hx h1 (by omega)
end
theorem RowZ.nil (w : World) (g : Tag) (t : Nat × Nat) (e : TypeId) (size : Nat) : RowZ w g t e size (.slice none 0 0) 0 [] :=
 ⟨World.ownsRow_nil _ _ _ _, fun k hk => by simp [Value.ownBlock] at hk⟩
def newTagT (bm b : Nat) : Tag := fun k => if k = b then (21, 0) else if k = bm then (22, 0) else (0, 0)
theorem TabAt.made (w : World) (lim : Nat) (hl : lim ≤ 65536) :
  TabAt ((w.alloc (.map #[] 0)).alloc (.cells #[.map (some w.heap.size), nilS, .int .i64 (lim : Int), .int .i64 0, .bool false] 114)) (newTagT w.heap.size (w.heap.size + 1)) (w.heap.size + 1) ⟨w.heap.size, nilS⟩ ⟨[], lim, 0, false⟩ ∧
   (∀ k, Mine (newTagT w.heap.size (w.heap.size + 1)) k → w.heap.size ≤ k) := by
 have hs : (w.alloc (.map #[] 0)).heap.size = w.heap.size + 1 := by simp
 refine ⟨⟨?_, by simp [newTagT], ⟨#[], ?_, rfl⟩, by simp [newTagT], RowZ.nil _ _ _ _ _, by simp, by simp, hl, by simp, by simp, ?_⟩, fun k hk => ?_⟩
 ·have := heap_alloc_new (w.alloc (.map #[] 0)) (.cells #[.map (some w.heap.size), nilS, .int .i64 (lim : Int), .int .i64 0, .bool false] 114)
  rw [hs] at this
  exact this
 ·exact alloc_block (heap_alloc_new w _) _
 ·intro k hk
  simp at hk
  simp only [newTagT]
  rw [if_neg (by omega), if_neg (by omega)]
 ·unfold Mine newTagT at hk
  split at hk
  ·omega
  ·split at hk
   ·omega
   ·simp at hk
def NewTab (w : World) (lim : Nat) (e : Ending) (w' : World) : Prop := ∃ b g V, e = .returned (.pointer (some ⟨b, 0, none⟩)) ∧ TabAt w' g b V ⟨[], lim, 0, false⟩ ∧ (∀ k, Mine g k → w.heap.size ≤ k) ∧ Only (fun _ => False) w w'
theorem NewTab.of (w : World) (lim : Nat) (hl : lim ≤ 65536) (z : Int) (hz : z = lim) : NewTab w lim (.returned (.pointer (some ⟨w.heap.size + 1, 0, none⟩))) ((w.alloc (.map #[] 0)).alloc (.cells #[.map (some w.heap.size), .slice none 0 0, .int .i64 z, .int .i64 0, .bool false] 114)) := by
 subst hz
 have hm := TabAt.made w lim hl
 exact ⟨_, _, _, rfl, hm.1, hm.2, ((Only.refl _ w).alloc _).alloc _⟩
set_option maxHeartbeats 800000 in
theorem atomsNew_any (w : World) (n : Int) (hn : InI64 n) (lim : Nat) (hl : min (max n 0) 65536 = (lim : Int)) :
  Calls Tryz.prog 35 #[.int .i64 n] w (NewTab w lim) := by
 have hmm := @run_makeMap Tryz.prog
 have hm : ∀ z : Int, z = lim → _ := fun z hz => NewTab.of w lim (by omega) z hz
 have HM := Lib.hid hm
 clear hm
 go_enter Tryz.func35, Tryz.ntmps35
 go_wp2_with fail
 all_goals (go_ret; exact HM.out _ (by omega))
section
variable {w : World} {g : Tag} {b : Nat} {V : TabV} {T : Tab}
theorem tabLen_any (H : TabAt w g b V T) : Calls Tryz.prog 21 #[.pointer (some ⟨b, 0, none⟩)] w fun e w' => e = .returned (.int .i64 (T.l.length : Int)) ∧ w' = w := by
 have q1 : w.cell? ⟨b, 1, none⟩ = some V.vl := by rw [cell_block H.blk]; rfl
 obtain ⟨al, cl, hvl, _, _⟩ := own_slice H.l.own
 rw [hvl] at q1
 go_enter Tryz.func21, Tryz.ntmps21
 go_wp2_with fail
 go_ret
 exact ⟨rfl, rfl⟩
end
end Go.Proofs.YtbapkcnfacklaaaGreat

/- The walks of package atoms: New, Len, Full, Help. -/
import Derived.Test.YtjedgdamommgeaaGreatAtoms3
set_option linter.unusedVariables false
namespace Go.Proofs.YtjedgdamommgeaaGreat
open Go.RowKit
theorem RowZ.nil (w : World) (g : Tag) (t : Nat × Nat) (e : TypeId) (size : Nat) : RowZ w g t e size (.slice none 0 0) 0 [] :=
 ⟨World.ownsRow_nil _ _ _ _, fun k hk => by simp [Value.ownBlock] at hk⟩
def newTagT (bm b : Nat) : Tag := fun k => if k = b then (21, 0) else if k = bm then (22, 0) else (0, 0)
theorem TabAt.made (w : World) (lim : Nat) (hl : lim ≤ 65536) :
  TabAt ((w.alloc (.map #[] 0)).alloc (.cells #[.map (some w.heap.size), nilS, .int .i64 (lim : Int), .int .i64 0, .bool false] 81)) (newTagT w.heap.size (w.heap.size + 1)) (w.heap.size + 1) ⟨w.heap.size, nilS⟩ ⟨[], lim, 0, false⟩ ∧
   (∀ k, Mine (newTagT w.heap.size (w.heap.size + 1)) k → w.heap.size ≤ k) := by
 have hs : (w.alloc (.map #[] 0)).heap.size = w.heap.size + 1 := by simp
 refine ⟨⟨?_, by simp [newTagT], ⟨#[], ?_, rfl⟩, by simp [newTagT], RowZ.nil _ _ _ _ _, by simp, by simp, hl, by simp, by simp, ?_⟩, fun k hk => ?_⟩
 ·have := heap_alloc_new (w.alloc (.map #[] 0)) (.cells #[.map (some w.heap.size), nilS, .int .i64 (lim : Int), .int .i64 0, .bool false] 81)
  rw [hs] at this
  exact this
 ·exact alloc_block (heap_alloc_new w _) _
 ·intro k hk
  simp at hk
  simp only [newTagT]
  rw [if_neg (by omega), if_neg (by omega)]
 ·unfold Mine newTagT at hk
  split at hk
  ·omega
  ·split at hk
   ·omega
   ·simp at hk
def NewTab (w : World) (lim : Nat) (e : Ending) (w' : World) : Prop := ∃ b g V, e = .returned (.pointer (some ⟨b, 0, none⟩)) ∧ TabAt w' g b V ⟨[], lim, 0, false⟩ ∧ (∀ k, Mine g k → w.heap.size ≤ k) ∧ Only (fun _ => False) w w'
theorem NewTab.of (w : World) (lim : Nat) (hl : lim ≤ 65536) (z : Int) (hz : z = lim) : NewTab w lim (.returned (.pointer (some ⟨w.heap.size + 1, 0, none⟩))) ((w.alloc (.map #[] 0)).alloc (.cells #[.map (some w.heap.size), .slice none 0 0, .int .i64 z, .int .i64 0, .bool false] 81)) := by
 subst hz
 have hm := TabAt.made w lim hl
 exact ⟨_, _, _, rfl, hm.1, hm.2, ((Only.refl _ w).alloc _).alloc _⟩
set_option maxHeartbeats 800000 in
theorem atomsNew_any (w : World) (n : Int) (hn : InI64 n) (lim : Nat) (hl : min (max n 0) 65536 = (lim : Int)) :
  Calls Tryz.prog 19 #[.int .i64 n] w (NewTab w lim) := by
 have hmm := @run_makeMap Tryz.prog
 have hm : ∀ z : Int, z = lim → _ := fun z hz => NewTab.of w lim (by omega) z hz
 have HM := Lib.hid hm
 clear hm
 go_enter Tryz.func19, Tryz.ntmps19
 go_wp2_with fail
 all_goals (go_ret; exact HM.out _ (by omega))
section
variable {w : World} {g : Tag} {b : Nat} {V : TabV} {T : Tab}
theorem tabLen_any (H : TabAt w g b V T) : Calls Tryz.prog 24 #[.pointer (some ⟨b, 0, none⟩)] w fun e w' => e = .returned (.int .i64 (T.l.length : Int)) ∧ w' = w := by
 have q1 : w.cell? ⟨b, 1, none⟩ = some V.vl := by rw [cell_block H.blk]; rfl
 obtain ⟨al, cl, hvl, _, _⟩ := own_slice H.l.own
 rw [hvl] at q1
 go_enter Tryz.func24, Tryz.ntmps24
 go_wp2_with fail
 go_ret
 exact ⟨rfl, rfl⟩
theorem tabFull_any (H : TabAt w g b V T) : Calls Tryz.prog 27 #[.pointer (some ⟨b, 0, none⟩)] w fun e w' => e = .returned (.bool T.full) ∧ w' = w := by
 have q1 : w.cell? ⟨b, 4, none⟩ = some (.bool T.full) := by rw [cell_block H.blk]; rfl
 go_enter Tryz.func27, Tryz.ntmps27
 go_wp2_with fail
 go_ret
 exact ⟨rfl, rfl⟩
theorem TabTo.trans {g1 : Tag} {w1 w2 : World} {T2 : Tab} (ha : Agree w g g1) (ho : Only (Mine g) w w1) (h2 : TabTo w1 g1 b T2 w2) : TabTo w g b T2 w2 := by
 obtain ⟨g2, V2, H2, A2, O2⟩ := h2
 exact ⟨g2, V2, H2, ha.trans A2 ho.size, ho.mine ha O2⟩
def hA (j : Nat) : At := (9, j, 0, 0)
theorem TabAt.setHelps (H : TabAt w g b V T) (k : Nat) (hk : k ≤ 1000000) : TabAt (w.setCell ⟨b, 3, none⟩ (.int .i64 (k : Int))) g b V { T with helps := k } ∧ Only (Mine g) w (w.setCell ⟨b, 3, none⟩ (.int .i64 (k : Int))) := by
 have hF : ∀ {t : Nat × Nat}, t ≠ (21, 0) → g b ≠ t := fun {t} h e => h (e.symm.trans H.tb)
 have ho : Only (fun k => k = b) w (w.setCell ⟨b, 3, none⟩ (.int .i64 (k : Int))) := Only.setCell (Only.refl (fun k => k = b) w) (p := ⟨b, 3, none⟩) (.inl rfl) _
 refine ⟨⟨?_, H.tb, H.map.only ho (fun e => by have := H.tm; rw [e, H.tb] at this; simp at this), H.tm, H.l.far (hF (by decide)) _, H.ok, H.nod, H.lim, hk, H.len, H.fresh.more ho.size⟩, (Only.refl _ w).setCell (.inl (by unfold Mine; rw [H.tb]; decide)) _⟩
 rw [set_block H.blk]; rfl
set_option maxHeartbeats 3200000 in
theorem Help_any (H : TabAt w g b V T) (k : Nat) (h1 : T.helps ≤ k) (h2 : ∀ j, T.helps ≤ j → j < k → hA j ∈ T.l) (h3 : hA k ∉ T.l) (hk : k ≤ 1000000) (r : Int) (hr : ({ T with helps := k }.num (hA k)).2 = r) :
  Calls Tryz.prog 21 #[.pointer (some ⟨b, 0, none⟩)] w fun e w' => e = .returned (.int .i64 r) ∧ TabTo w g b ({ T with helps := k }.num (hA k)).1 w' := by
 have q3 : w.cell? ⟨b, 3, none⟩ = some (.int .i64 T.helps) := by rw [cell_block H.blk]; rfl
 have HR := Lib.hid hr
 clear hr
 have lb := lt_block H.blk
 have hstart : TabAt (w.alloc (.cells #[.int .u8 9, .int .i64 (T.helps : Int), .int .i64 0, .int .i64 0] 85)) g b V T ∧ (w.alloc (.cells #[.int .u8 9, .int .i64 (T.helps : Int), .int .i64 0, .int .i64 0] 85)).heap[w.heap.size]? = some (.cells (cellsA (hA T.helps)).toArray 85 (0, 0)) ∧ Only (Mine g) w (w.alloc (.cells #[.int .u8 9, .int .i64 (T.helps : Int), .int .i64 0, .int .i64 0] 85)) :=
  ⟨H.only0 ((Only.refl _ w).alloc _), heap_alloc_new w _, (Only.refl _ w).alloc _⟩
 go_enter Tryz.func21, Tryz.ntmps21
 go_wp2_with fail
 have hgB : (g w.heap.size).1 = 0 := H.fresh _ (Nat.le_refl _)
 have hbB : b ≠ w.heap.size := by omega
 have hst := hstart
 clear hstart
 generalize hBB : w.heap.size = B at *
 generalize w.alloc (.cells #[.int .u8 9, .int .i64 (T.helps : Int), .int .i64 0, .int .i64 0] 85) = w0 at *
 have HH := Lib.hid h2
 have H3 := Lib.hid h3
 have HS := Lib.hid hst
 clear h2 h3 hst q3
 go_loopw [] (fun wr => ∃ j : Nat, T.helps ≤ j ∧ j ≤ k ∧ TabAt wr g b V { T with helps := j } ∧ wr.heap[B]? = some (.cells (cellsA (hA j)).toArray 85 (0, 0)) ∧ Only (Mine g) w wr) (fun wr => k - (intOf ((wr.cell? ⟨b, 3, none⟩).getD (.int .i64 0))).toNat)
 case atStart => exact ⟨T.helps, Nat.le_refl _, h1, HS.out.1, HS.out.2.1, HS.out.2.2⟩
 case round =>
  obtain ⟨j, j1, j2, hT, hB, hO⟩ := hrel
  have q3 : wr.cell? ⟨b, 3, none⟩ = some (.int .i64 (j : Int)) := by rw [cell_block hT.blk]; rfl
  have f3 := free_block hT.blk 3
  have x0 : wr.cell? ⟨B, 0, none⟩ = some (.int .u8 9) := by rw [cell_block hB]; rfl
  have x1 : wr.cell? ⟨B, 1, none⟩ = some (.int .i64 (j : Int)) := by rw [cell_block hB]; rfl
  have x2 : wr.cell? ⟨B, 2, none⟩ = some (.int .i64 0) := by rw [cell_block hB]; rfl
  have x3 : wr.cell? ⟨B, 3, none⟩ = some (.int .i64 0) := by rw [cell_block hB]; rfl
  have fB := free_block hB 1
  have hok : AtOk (hA j) := ⟨by simp [hA], by simp [hA, InI64]; omega, by simp [hA, InI64], by simp [hA, InI64]⟩
  by_cases hjk : j = k
  ·subst hjk
   have hl := Look_any hT hok 0 (by rw [numOf_zero.2 H3.out]; rfl)
   have hfin := fun w1 (o : Only (fun _ => False) wr w1) => Number_any (hT.only0 o) hok r HR.out
   unfold encA hA at hl hfin
   have HL := Lib.hid hl
   have HF := Lib.hid hfin
   clear hl hfin
   go_wp2_with fail
   refine HL.out.mono ?_
   rintro e w1 ⟨rfl, O1⟩
   have y0 := cell_keep x0 O1 (fun f => f)
   have y1 := cell_keep x1 O1 (fun f => f)
   have y2 := cell_keep x2 O1 (fun f => f)
   have y3 := cell_keep x3 O1 (fun f => f)
   have hF := HF.out w1 O1
   have hO1 : Only (Mine g) w w1 := hO.same (O1.mono fun _ f => f.elim)
   have HF1 := Lib.hid hF
   clear HF hF HL O1
   go_wp2_with fail
   refine HF1.out.mono ?_
   rintro e w2 ⟨rfl, hT2⟩
   have hT3 := TabTo.trans (Agree.refl _ _) hO1 hT2
   clear hT2 HF1
   go_wp2_with fail
   go_ret
   exact ⟨rfl, hT3⟩
  ·have hin : hA j ∈ T.l := HH.out j j1 (by omega)
   have hpos : 0 < (numOf T.l (hA j) : Int) := by
    have : numOf T.l (hA j) ≠ 0 := fun h => (numOf_zero.1 h) hin
    omega
   have hl := Look_any hT hok _ rfl
   have hl2 : ((numOf T.l (hA j) : Nat) : Int) = ((numOf ({ T with helps := j } : Tab).l (hA j) : Nat) : Int) := rfl
   rw [← hl2] at hl
   generalize ((numOf T.l (hA j) : Nat) : Int) = z at *
   unfold encA hA at hl
   have HL := Lib.hid hl
   have d1 : decide (0 < z) = true := decide_eq_true hpos
   clear hl hl2
   go_wp2_with fail
   refine HL.out.mono ?_
   rintro e w1 ⟨rfl, O1⟩
   have p3 := cell_keep q3 O1 (fun f => f)
   have g3 := free_keep q3 f3 O1 (fun f => f)
   have y1 := cell_keep x1 O1 (fun f => f)
   have gB := free_keep x1 fB O1 (fun f => f)
   have hb1 := only_block hB O1 (fun f => f)
   have hT1 := (hT.only0 O1).setHelps (j + 1) (by omega)
   have hO1 : Only (Mine g) w w1 := hO.same (O1.mono fun _ f => f.elim)
   have ew : IntKind.i64.wrap ((j : Int) + 1) = ((j + 1 : Nat) : Int) := by rw [IntWalk.i64_in _ (by omega)]; rfl
   have hrel2 : (∃ j' : Nat, T.helps ≤ j' ∧ j' ≤ k ∧ TabAt ((w1.setCell ⟨b, 3, none⟩ (.int .i64 ((j + 1 : Nat) : Int))).setCell ⟨B, 1, none⟩ (.int .i64 ((j + 1 : Nat) : Int))) g b V { T with helps := j' } ∧ ((w1.setCell ⟨b, 3, none⟩ (.int .i64 ((j + 1 : Nat) : Int))).setCell ⟨B, 1, none⟩ (.int .i64 ((j + 1 : Nat) : Int))).heap[B]? = some (.cells (cellsA (hA j')).toArray 85 (0, 0)) ∧ Only (Mine g) w ((w1.setCell ⟨b, 3, none⟩ (.int .i64 ((j + 1 : Nat) : Int))).setCell ⟨B, 1, none⟩ (.int .i64 ((j + 1 : Nat) : Int)))) ∧
     ((w1.setCell ⟨b, 3, none⟩ (.int .i64 ((j + 1 : Nat) : Int))).setCell ⟨B, 1, none⟩ (.int .i64 ((j + 1 : Nat) : Int))).cell? ⟨b, 3, none⟩ = some (.int .i64 ((j + 1 : Nat) : Int)) := by
    have h5 := hT1.1.only (F := fun k => k = B) (Only.setCell (Only.refl (fun k => k = B) _) (p := ⟨B, 1, none⟩) (.inl rfl) (.int .i64 ((j + 1 : Nat) : Int))) (fun k hk e => by rw [e] at hk; exact hk hgB)
    refine ⟨⟨j + 1, by omega, by omega, h5, ?_, ?_⟩, by rw [cell_block h5.blk]; rfl⟩
    ·rw [set_block (set_block_other hb1 (p := ⟨b, 3, none⟩) (fun e => hbB e.symm) _)]; rfl
    ·exact (hO1.same hT1.2).setCell (.inr (by rw [hBB]; exact Nat.le_refl _)) _
   have HR2 := Lib.hid hrel2
   have c4 : (w1.setCell ⟨b, 3, none⟩ (.int .i64 ((j + 1 : Nat) : Int))).cell? ⟨b, 3, none⟩ = some (.int .i64 ((j + 1 : Nat) : Int)) := by rw [cell_block hT1.1.blk]; rfl
   have c5 : (w1.setCell ⟨b, 3, none⟩ (.int .i64 ((j + 1 : Nat) : Int))).cell? ⟨B, 1, none⟩ = some (.int .i64 (j : Int)) := (World.cell?_setCell_far w1 _ _ _ hbB).trans y1
   have c6 : (w1.setCell ⟨b, 3, none⟩ (.int .i64 ((j + 1 : Nat) : Int))).frozen? ⟨B, 1, none⟩ = false := free_block (set_block_other hb1 (p := ⟨b, 3, none⟩) (fun e => hbB e.symm) _) 1
   clear hrel2 O1 hT1 hb1 hT hB hO
   go_wp2_with fail
   go_roundw
   case rel => exact HR2.out.1
   case measure =>
    have e2 := HR2.out.2
    have ec : ((j + 1 : Nat) : Int) = (j : Int) + 1 := rfl
    rw [ec] at e2
    rw [e2, q3]
    simp [intOf]
    omega
end
end Go.Proofs.YtjedgdamommgeaaGreat

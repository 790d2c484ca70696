/- Rup1 Rup2 Rup3, in one text. -/
import Derived.Test.YtjedgdamommgeaaGreatUpA
import Derived.Defers
import Derived.Test.YtjedgdamommgeaaGreatLists
import Derived.Deep.RegionHeld3
import Derived.Deep.DrawnRows
set_option linter.unusedVariables false
namespace Go.Proofs.YtjedgdamommgeaaGreat
open Go.RowKit
structure RupV where
 vc : Value
 vg : Value
 vo : Value
 vv : Value
 vs : Value
 us : List Value
 os : List Value
structure ChkAt (w : World) (g : Tag) (b : Nat) (V : RupV) (C : Rup.Chk) : Prop where
 blk : w.heap[b]? = some (.cells #[.int .i64 C.n, V.vc, V.vg, V.vo, V.vv, V.vs] 131 (0, 0))
 tb : g b = (1, 0)
 c : Row w g (2, 0) 23 V.vc V.us
 ci : AllInts w V.us C.cls
 ct : ∀ i, i < C.cls.length → Tagged g (7, 0) (V.us.getD i nilS) (C.cls.getD i [])
 gn : Row w g (3, 0) 4 V.vg (C.gone.map Value.bool)
 o : Row w g (4, 0) 23 V.vo V.os
 ol : V.os.length = 2 * C.n
 oi : ∀ p, p < 2 * C.n → Row w g (8, p) 3 (V.os.getD p nilS) ((C.of p).map cI)
 v : Row w g (5, 0) 3 V.vv ((Rup.valL C.n C.set).map cI)
 s : Row w g (6, 0) 3 V.vs (C.set.map cI)
 fresh : Fresh w g
def RupTo (w : World) (g : Tag) (b : Nat) (C : Rup.Chk) (w' : World) : Prop := ∃ g' V', ChkAt w' g' b V' C ∧ Agree w g g' ∧ Only (Mine g) w w'
abbrev T156 (t : Nat) : Prop := t = 1 ∨ t = 5 ∨ t = 6
def RupS (w : World) (g : Tag) (b : Nat) (V : RupV) (C : Rup.Chk) (w' : World) : Prop := ∃ g' vs', ChkAt w' g' b { V with vs := vs' } C ∧ Agree w g g' ∧ Only (fun k => T156 (g k).1) w w'
section
variable {w : World} {g : Tag} {b : Nat} {V : RupV} {C : Rup.Chk}
theorem ChkAt.only (H : ChkAt w g b V C) {F : Nat → Prop} {w' : World} (ho : Only F w w') (hF : ∀ k, (g k).1 ≠ 0 → ¬ F k) : ChkAt w' g b V C :=
 ⟨only_block H.blk ho (hF b (by rw [H.tb]; simp)), H.tb, H.c.only ho (fun k hk => hF k (by rw [hk]; simp)), H.ci.keepT H.ct ho (fun k hk => hF k (by rw [hk]; simp)), H.ct, H.gn.only ho (fun k hk => hF k (by rw [hk]; simp)),
 H.o.only ho (fun k hk => hF k (by rw [hk]; simp)), H.ol, fun p hp => (H.oi p hp).only ho (fun k hk => hF k (by rw [hk]; simp)), H.v.only ho (fun k hk => hF k (by rw [hk]; simp)), H.s.only ho (fun k hk => hF k (by rw [hk]; simp)), H.fresh.more ho.size⟩
theorem ChkAt.only0 (H : ChkAt w g b V C) {w' : World} (ho : Only (fun _ => False) w w') : ChkAt w' g b V C := H.only ho (fun _ _ f => f)
theorem RupTo.refl (H : ChkAt w g b V C) : RupTo w g b C w := ⟨g, V, H, Agree.refl _ _, Only.refl _ _⟩
theorem RupTo.trans {g1 : Tag} {w1 w2 : World} {C2 : Rup.Chk} (ha : Agree w g g1) (ho : Only (Mine g) w w1) (h2 : RupTo w1 g1 b C2 w2) : RupTo w g b C2 w2 := by
 obtain ⟨g2, V2, H2, A2, O2⟩ := h2
 exact ⟨g2, V2, H2, ha.trans A2 ho.size, ho.mine ha O2⟩
theorem RupS.refl (H : ChkAt w g b V C) : RupS w g b V C w := ⟨g, V.vs, H, Agree.refl _ _, Only.refl _ _⟩
theorem RupS.trans {g1 : Tag} {w1 w2 : World} {vs1 : Value} {C2 : Rup.Chk} (ha : Agree w g g1) (ho : Only (fun k => T156 (g k).1) w w1) (h2 : RupS w1 g1 b { V with vs := vs1 } C2 w2) : RupS w g b V C2 w2 := by
 obtain ⟨g2, vs2, H2, A2, O2⟩ := h2
 exact ⟨g2, vs2, H2, ha.trans A2 ho.size, ho.tags ha O2⟩
theorem RupS.to {w' : World} {C2 : Rup.Chk} (h : RupS w g b V C2 w') : RupTo w g b C2 w' := by
 obtain ⟨g2, vs2, H2, A2, O2⟩ := h
 exact ⟨g2, _, H2, A2, O2.mono fun k hk => by unfold Mine; rcases hk with h | h | h <;> omega⟩
theorem ChkAt.f0 (H : ChkAt w g b V C) : w.cell? ⟨b, 0, none⟩ = some (.int .i64 C.n) := by rw [cell_block H.blk]; rfl
theorem ChkAt.f1 (H : ChkAt w g b V C) : w.cell? ⟨b, 1, none⟩ = some V.vc := by rw [cell_block H.blk]; rfl
theorem ChkAt.f2 (H : ChkAt w g b V C) : w.cell? ⟨b, 2, none⟩ = some V.vg := by rw [cell_block H.blk]; rfl
theorem ChkAt.f3 (H : ChkAt w g b V C) : w.cell? ⟨b, 3, none⟩ = some V.vo := by rw [cell_block H.blk]; rfl
theorem ChkAt.f4 (H : ChkAt w g b V C) : w.cell? ⟨b, 4, none⟩ = some V.vv := by rw [cell_block H.blk]; rfl
theorem ChkAt.f5 (H : ChkAt w g b V C) : w.cell? ⟨b, 5, none⟩ = some V.vs := by rw [cell_block H.blk]; rfl
theorem rup_place_any (x : Int) (n : Nat) (hn : n ≤ 65536) (hx : x ≠ 0 ∧ x.natAbs ≤ n) (p : Int) (hp : p = (Rup.place x : Int)) : Calls Tryz.prog 139 #[.int .i64 x] w fun e w' => e = .returned (.int .i64 p) ∧ w = w' := by
 subst hp
 obtain ⟨h0, h1⟩ := hx
 by_cases hneg : x < 0
 ·have e1 : (Rup.place x : Int) = -2 * x - 1 := by unfold Rup.place; rw [if_pos hneg]; omega
  rw [e1]
  have b1 : -65536 ≤ x := by omega
  clear e1 h1 h0
  go_enter Tryz.func139, Tryz.ntmps139
  go_wp2
  go_ret
  exact ⟨rfl, rfl⟩
 ·have e1 : (Rup.place x : Int) = 2 * x - 2 := by unfold Rup.place; rw [if_neg hneg]; omega
  rw [e1]
  have b1 : x ≤ 65536 := by omega
  have b2 : 0 < x := by omega
  clear e1 h1 h0 hneg
  go_enter Tryz.func139, Tryz.ntmps139
  go_wp2
  go_ret
  exact ⟨rfl, rfl⟩
theorem rup_so_any (H : ChkAt w g b V C) (o : C.Ok) (x : Int) (hx : x ≠ 0 ∧ x.natAbs ≤ C.n) (r : Int) (hr : Cnf.value C.set x = r) :
  Calls Tryz.prog 181 #[.pointer (some ⟨b, 0, none⟩), .int .i64 x] w fun e w' => e = .returned (.int .i64 r) ∧ w = w' := by
 have hn := o.n
 have hl := Rup.valL_lit C.n C.set hx.1 hx.2
 have hlen := Rup.valL_len C.n C.set
 obtain ⟨gv, cap, hvv, hc1, hc2, -, -⟩ := H.v.pos (by simp [hlen]; omega)
 have q0 := H.f4
 have hrow := H.v
 rw [hvv] at q0 hrow
 have q1 := hrow.cellM (f := cI) 0 (i := x.natAbs - 1) (by rw [hlen]; omega)
 have hrng : -1 ≤ (Rup.valL C.n C.set).getD (x.natAbs - 1) 0 ∧ (Rup.valL C.n C.set).getD (x.natAbs - 1) 0 ≤ 1 := by
  rw [Rup.valL_get _ _ (by omega)]
  have := Cnf.value_range C.set (((x.natAbs - 1 : Nat) : Int) + 1)
  omega
 simp only [List.length_map, hlen] at q0
 clear hrow hvv hlen hc1 hc2
 rw [hr] at hl
 generalize (Rup.valL C.n C.set).getD (x.natAbs - 1) 0 = z at *
 obtain ⟨hz1, hz2⟩ := hrng
 obtain ⟨h0, h1⟩ := hx
 clear H hr
 by_cases hneg : x < 0
 ·rw [if_pos hneg] at hl
  have e1 : x.natAbs - 1 = (-x).toNat - 1 := by omega
  rw [e1] at q1
  subst hl
  have b1 : -x - 1 < (C.n : Int) := by omega
  have b2 : -65536 ≤ x := by omega
  have b3 : 0 ≤ -x - 1 := by omega
  clear e1 h1 h0 o
  generalize C.n = n at *
  go_enter Tryz.func181, Tryz.ntmps181
  go_wp2
  go_ret
  exact ⟨rfl, rfl⟩
 ·rw [if_neg hneg] at hl
  obtain ⟨m, rfl⟩ : ∃ m : Nat, x = ((m : Int) + 1) := ⟨x.natAbs - 1, by omega⟩
  have e1 : (((m : Int) + 1)).natAbs - 1 = m := by omega
  rw [e1] at q1
  subst hl
  have b1 : m < C.n := by omega
  have b2 : m < 65536 := by omega
  clear e1 h1 h0 hneg o
  generalize C.n = n at *
  have e2 : IntKind.i64.wrap (m : Int) = m := IntWalk.i64_in _ (by omega)
  go_enter Tryz.func181, Tryz.ntmps181
  go_wp2
  go_ret
  exact ⟨rfl, rfl⟩
theorem ChkAt.pushed (H : ChkAt w g b V C) {w1 w2 : World} {S' : List Int} {vs' : Value} (hv1 : Row w1 g (5, 0) 3 V.vv ((Rup.valL C.n S').map cI)) (o1 : Only (fun k => g k = (5, 0)) w w1)
  (hs2 : Row w2 (Tag.put g w1.heap.size w2.heap.size (6, 0)) (6, 0) 3 vs' (S'.map cI)) (o2 : Only (fun k => g k = (6, 0)) w1 w2) : RupS w g b V { C with set := S' } (w2.setCell ⟨b, 5, none⟩ vs') := by
 have ag : Agree w1 g (Tag.put g w1.heap.size w2.heap.size (6, 0)) := Agree.put g _ (Nat.le_refl _)
 have gb : g b ≠ (6, 0) := by rw [H.tb]; simp
 have lb := lt_block H.blk
 have lb1 : b < w1.heap.size := Nat.lt_of_lt_of_le lb o1.size
 have gb2 : Tag.put g w1.heap.size w2.heap.size (6, 0) b = (1, 0) := (ag b lb1).trans H.tb
 have k1 : ∀ {t : Nat × Nat} {e : TypeId} {v : Value} {xs : List Value}, Row w g t e v xs → t ≠ (5, 0) → t ≠ (6, 0) → t ≠ (1, 0) → Row (w2.setCell ⟨b, 5, none⟩ vs') (Tag.put g w1.heap.size w2.heap.size (6, 0)) t e v xs := by
  intro t e v xs hr h5 h6 h1
  refine Row.far ((hr.only o1 fun k hk hF => h5 (hk.symm.trans hF)).keep o2 (fun k hk hF => h6 (hk.symm.trans hF)) ag) ?_ _
  rw [gb2]; exact fun e => h1 e.symm
 refine ⟨Tag.put g w1.heap.size w2.heap.size (6, 0), vs', ⟨?_, gb2, k1 H.c (by simp) (by simp) (by simp), ?_, ?_, k1 H.gn (by simp) (by simp) (by simp), k1 H.o (by simp) (by simp) (by simp), H.ol, fun p hp => k1 (H.oi p hp) (by simp) (by simp) (by simp), ?_, ?_, ?_⟩, ?_, ?_⟩
 ·have h1 := only_block H.blk o1 (by rw [H.tb]; simp)
  have h2 := only_block h1 o2 gb
  rw [set_block h2]; rfl
 ·have h1 := H.ci.keepT H.ct o1 (fun k hk hF => by rw [hk] at hF; simp at hF)
  have h2 := h1.keepT H.ct o2 (fun k hk hF => by rw [hk] at hF; simp at hF)
  refine h2.keepT (F := fun k => k = b) H.ct (Only.setCell (Only.refl (fun k => k = b) w2) (p := ⟨b, 5, none⟩) (.inl rfl) _) (fun k hk hF => by rw [hF, H.tb] at hk; simp at hk)
 ·exact fun i hi => (H.ct i hi).agree (H.ci.2 i hi) (fun k hk => ag k (Nat.lt_of_lt_of_le hk o1.size))
 ·exact Row.far (hv1.keep o2 (fun k hk hF => by rw [hk] at hF; simp at hF) ag) (by rw [gb2]; simp) _
 ·exact Row.far hs2 (by rw [gb2]; simp) _
 ·refine Fresh.more (Fresh.put (w := w1) (6, 0) (H.fresh.more o1.size) o2.size) (by simp [World.setCell])
 ·exact fun k hk => ag k (Nat.lt_of_lt_of_le hk o1.size)
 ·refine Only.setCell ?_ (.inl (by rw [H.tb]; simp [T156])) _
  exact (o1.mono fun k hk => by rw [hk]; simp [T156]).same (o2.mono fun k hk => by rw [hk]; simp [T156])
set_option maxHeartbeats 1600000 in
theorem rup_put_new (H : ChkAt w g b V C) (o : C.Ok) (x : Int) (hx : x ≠ 0 ∧ x.natAbs ≤ C.n) (hv : Cnf.value C.set x = 0) :
  Calls Tryz.prog 163 #[.pointer (some ⟨b, 0, none⟩), .int .i64 x] w fun e w' => e = .returned (.bool true) ∧ RupS w g b V { C with set := C.set ++ [x] } w' := by
 have hc := rup_so_any H o x hx 0 hv
 have HC := Lib.hid hc
 have hn := o.n
 have hlen := Rup.valL_len C.n C.set
 have hvL := Rup.valL_put C.n C.set hx.1 hx.2 hv
 have HVL := Lib.hid hvL
 clear hvL hv hc
 obtain ⟨gv, cap, hvv, hc1, hc2, htv, hltv⟩ := H.v.pos (by simp [hlen]; omega)
 obtain ⟨ao, cs, hvs, hs1, hs2⟩ := H.s.shape
 have q4 := H.f4
 have q5 := H.f5
 have hrow := H.v
 have hrs := H.s
 rw [hvv] at q4 hrow
 rw [hvs] at q5 hrs
 simp only [List.length_map, hlen] at q4 hrow
 simp only [List.length_map] at q5 hrs hs1
 have hne : gv ≠ b := by intro e; rw [e, H.tb] at htv; simp at htv
 obtain ⟨h0, h1⟩ := hx
 have hSl := o.set.len
 have hg6 : g gv ≠ (6, 0) := by rw [htv]; simp
 have HG6 := Lib.hid hg6
 clear hg6
 by_cases hneg : x < 0
 ·have b1 : -65536 ≤ x := by omega
  have b2 : -x ≤ (C.n : Int) := by omega
  have q1 := hrow.cellM (f := cI) 0 (i := (-x).toNat - 1) (by rw [hlen]; omega)
  have f1 := hrow.free ((-x).toNat - 1)
  have hst := (hrow.store ((-x).toNat - 1) (cI 1)).store ((-x).toNat - 1) (cI (-1))
  have hst' : Row ((w.setCell ⟨gv, (-x).toNat - 1, none⟩ (cI 1)).setCell ⟨gv, (-x).toNat - 1, none⟩ (cI (-1))) g (5, 0) 3 V.vv ((Rup.valL C.n (C.set ++ [x])).map cI) := by
   rw [HVL.out, hvv, if_pos hneg, show x.natAbs - 1 = (-x).toNat - 1 by omega, List.map_set]
   simpa [hlen] using hst
  have HST := Lib.hid hst'
  have em : max x (-x) = -x := by omega
  generalize (Rup.valL C.n C.set).getD ((-x).toNat - 1) 0 = z at *
  clear h0 h1 hlen hc1 hst hst' HVL
  go_enter Tryz.func163, Tryz.ntmps163
  go_wp2_with fail
  refine HC.out.mono ?_
  rintro e w' ⟨rfl, rfl⟩
  go_wp2_with (at_builtin; go_must (refine Row.app (u := .int .i64 x) slInt rfl (.tmp 37) (.tmp 39) rfl rfl rfl ?hc rfl (by exact Row.alloc (Row.far (Row.far hrs HG6.out _) HG6.out _) _) (by simp; omega) (by decide) ?hK))
  case hc => exact cell_newE _ _ _ _ (by simp [World.setCell])
  case hK =>
   intro v' w' r1 r2
   obtain ⟨gs', cap', rfl, -, -, -, -⟩ := r1.pos (by simp)
   simp only [List.length_append, List.length_map, List.length_cons, List.length_nil, Nat.zero_add] at r1
   have o1 : Only (fun k => g k = (5, 0)) w (((w.setCell ⟨gv, (-x).toNat - 1, none⟩ (cI 1)).setCell ⟨gv, (-x).toNat - 1, none⟩ (cI (-1))).alloc (Obj.cells #[.int .i64 x] 3)) :=
    (((Only.refl _ w).setCell (.inl htv) _).setCell (.inl htv) _).alloc _
   have hfin := H.pushed (S' := C.set ++ [x]) (HST.out.alloc _) o1 (by simpa using r1) r2
   have HF := Lib.hid hfin
   have hb5 := only_block (only_block H.blk o1 (by rw [H.tb]; simp)) r2 (by rw [H.tb]; simp)
   have hcb : w'.cell? ⟨b, 5, none⟩ = some V.vs := by rw [cell_block hb5]; rfl
   have hfb := free_block hb5 5
   clear r1 r2 hfin hb5 o1 f1 q1 q4 q5 em
   go_wp2_with fail
   go_ret
   exact ⟨rfl, HF.out⟩
 ·have b0 : 0 < x := by omega
  have b1 : x ≤ 65536 := by omega
  have b2 : x ≤ (C.n : Int) := by omega
  have q1 := hrow.cellM (f := cI) 0 (i := x.toNat - 1) (by rw [hlen]; omega)
  have f1 := hrow.free (x.toNat - 1)
  have hst := hrow.store (x.toNat - 1) (cI 1)
  have hst' : Row (w.setCell ⟨gv, x.toNat - 1, none⟩ (cI 1)) g (5, 0) 3 V.vv ((Rup.valL C.n (C.set ++ [x])).map cI) := by
   rw [HVL.out, hvv, if_neg hneg, show x.natAbs - 1 = x.toNat - 1 by omega, List.map_set]
   simpa [hlen] using hst
  have HST := Lib.hid hst'
  have em : max x (-x) = x := by omega
  have d1 : decide (x < 0) = false := decide_eq_false hneg
  generalize (Rup.valL C.n C.set).getD (x.toNat - 1) 0 = z at *
  clear hneg h0 h1 hlen hc1 hst hst' HVL
  go_enter Tryz.func163, Tryz.ntmps163
  go_wp2_with fail
  refine HC.out.mono ?_
  rintro e w' ⟨rfl, rfl⟩
  go_wp2_with (at_builtin; go_must (refine Row.app (u := .int .i64 x) slInt rfl (.tmp 37) (.tmp 39) rfl rfl rfl ?hc2 rfl (by exact Row.alloc (Row.far hrs HG6.out _) _) (by simp; omega) (by decide) ?hK2))
  case hc2 => exact cell_newE _ _ _ _ (by simp [World.setCell])
  case hK2 =>
   intro v' w' r1 r2
   obtain ⟨gs', cap', rfl, -, -, -, -⟩ := r1.pos (by simp)
   simp only [List.length_append, List.length_map, List.length_cons, List.length_nil, Nat.zero_add] at r1
   have o1 : Only (fun k => g k = (5, 0)) w ((w.setCell ⟨gv, x.toNat - 1, none⟩ (cI 1)).alloc (Obj.cells #[.int .i64 x] 3)) :=
    ((Only.refl _ w).setCell (.inl htv) _).alloc _
   have hfin := H.pushed (S' := C.set ++ [x]) (HST.out.alloc _) o1 (by simpa using r1) r2
   have HF := Lib.hid hfin
   have hb5 := only_block (only_block H.blk o1 (by rw [H.tb]; simp)) r2 (by rw [H.tb]; simp)
   have hcb : w'.cell? ⟨b, 5, none⟩ = some V.vs := by rw [cell_block hb5]; rfl
   have hfb := free_block hb5 5
   clear r1 r2 hfin hb5 o1 f1 q1 q4 q5 em
   go_wp2_with fail
   go_ret
   exact ⟨rfl, HF.out⟩
theorem Rup.Chk.Ok.snoc (o : C.Ok) {x : Int} (hx : x ≠ 0 ∧ x.natAbs ≤ C.n) (hv : Cnf.value C.set x = 0) : ({ C with set := C.set ++ [x] } : Rup.Chk).Ok :=
 ⟨o.n, o.len, o.cls, o.set.snoc hx hv, o.few, o.of_⟩
def LookTo (S c : List Int) (k : Nat) (op : Int) : Prop := Cnf.fol S c 0 0 = Cnf.fol S (c.drop k) op (if op = 0 then 0 else 1)
theorem fol_two (S : List Int) : ∀ (c : List Int) (op : Int) (n : Nat), 2 ≤ n → (Cnf.fol S c op n).2 = 0
 | [], op, n, h => by unfold Cnf.fol Cnf.folEnd; rw [if_neg (by omega), if_neg (by omega)]
 | x :: r, op, n, h => by
  unfold Cnf.fol
  split
  ·rfl
  ·split
   ·exact fol_two S r x (n + 1) (by omega)
   ·exact fol_two S r op n h
set_option maxHeartbeats 1600000 in
theorem rup_look_any (H : ChkAt w g b V C) (o : C.Ok) (k : Nat) (hk : k < C.cls.length) (kI : Int) (hkI : kI = k) :
  Calls Tryz.prog 164 #[.pointer (some ⟨b, 0, none⟩), .int .i64 kI] w fun e w' => e = .returned (.bool (C.lookF C.set k).2) ∧ RupS w g b V { C with set := (C.lookF C.set k).1 } w' ∧ ({ C with set := (C.lookF C.set k).1 } : Rup.Chk).Ok := by
 subst hkI
 have hlen := o.len
 have hfew := o.few
 have hul := H.ci.1
 obtain ⟨gg, capg, hvg, hg1, hg2, htg, hltg⟩ := H.gn.pos (by simp; omega)
 obtain ⟨gc, capc, hvc, hc1, hc2, htc, hltc⟩ := H.c.pos (by omega)
 have q2 := H.f2
 have q1 := H.f1
 have hrg := H.gn
 have hrc := H.c
 rw [hvg] at q2 hrg
 rw [hvc] at q1 hrc
 have qg := hrg.cellM (f := Value.bool) false (i := k) (by omega)
 have qc := hrc.cell nilS (i := k) (by omega)
 have hci := H.ci.2 k hk
 simp only [List.length_map] at q2
 clear hrg hrc
 cases hgk : C.gone.getD k false
 ·rw [hgk] at qg
  have hlk : C.lookF C.set k = if (Cnf.fol C.set (C.cls.getD k []) 0 0).2 = -1 then (C.set, false) else if (Cnf.fol C.set (C.cls.getD k []) 0 0).2 = 1 then (C.set ++ [(Cnf.fol C.set (C.cls.getD k []) 0 0).1], true) else (C.set, true) := by
   unfold Rup.Chk.lookF; rw [hgk]; rfl
  have HLK := Lib.hid hlk
  have hcl := o.cls _ (getD_mem' [] hk)
  have HCl := Lib.hid hcl
  generalize hu : V.us.getD k nilS = u at *
  generalize hcc : C.cls.getD k [] = c at *
  clear hlk hcl hu hcc hgk
  obtain ⟨au, cu, rfl, hu1, hu2⟩ := hci.shape
  have kb : k < C.gone.length := by omega
  have kb2 : k < V.us.length := by omega
  clear hlen hul
  go_enter Tryz.func164, Tryz.ntmps164
  go_wp2_with fail
  go_loop [5, 23] (fun vo v => ∃ (j : Nat) (op : Int), v = .int .i64 j ∧ vo = .int .i64 op ∧ j ≤ c.length ∧ LookTo C.set c j op ∧ (op ≠ 0 → op.natAbs ≤ C.n ∧ Cnf.value C.set op = 0)) (fun _ v => c.length - (intOf v).toNat)
  case atStart => exact ⟨0, 0, rfl, rfl, Nat.zero_le _, rfl, fun h => absurd rfl h⟩
  case round =>
   obtain ⟨j, op, rfl, rfl, hj, hL, hop⟩ := hrel
   have HOp := Lib.hid hop
   clear hop
   by_cases cj : j < c.length
   ·obtain ⟨bu, ou, rfl, _, hcs⟩ := hci.cells _ _ _ rfl (by omega)
    have q := hcs j cj
    have hx := HCl.out.lit _ (getD_mem' 0 cj)
    unfold LookTo at hL
    rw [Cnf.fol_drop C.set cj] at hL
    have HL := Lib.hid hL
    clear hcs hL
    generalize c.getD j 0 = x at *
    rcases Cnf.value_range C.set x with hv | hv | hv
    ·by_cases ho : op = 0
     ·subst ho
      have HV := Lib.hid hv
      clear hv
      go_wp2_with fail
      refine (rup_so_any H o x hx 0 HV.out).mono ?_
      rintro e w' ⟨rfl, rfl⟩
      go_wp2_with fail
      go_round
      case rel =>
       refine ⟨j + 1, x, by go_num, rfl, by omega, ?_, fun _ => ⟨hx.2, HV.out⟩⟩
       unfold LookTo
       rw [HL.out, HV.out, if_neg hx.1]
       simp
      case measure => simp [intOf]; omega
     ·have hne : (op != 0) = true := bne_iff_ne.2 ho
      have HO := Lib.hid ho
      have HV := Lib.hid hv
      clear hv ho
      have hend : C.lookF C.set k = (C.set, true) := by
       have h2 := HL.out
       rw [HV.out, if_neg (by omega), if_pos rfl, if_neg HO.out] at h2
       have h3 := fol_two C.set (c.drop (j + 1)) x (1 + 1) (by omega)
       rw [← h2] at h3
       rw [HLK.out, h3]
       simp
      have HE := Lib.hid hend
      have hfin := RupS.refl H
      have HF := Lib.hid hfin
      clear hend hfin
      go_wp2_with fail
      refine (rup_so_any H o x hx 0 HV.out).mono ?_
      rintro e w' ⟨rfl, rfl⟩
      go_wp2_with fail
      go_ret
      rw [HE.out]
      exact ⟨rfl, HF.out, o⟩
    ·have HV := Lib.hid hv
     clear hv
     have hend : C.lookF C.set k = (C.set, true) := by
      have h2 := HL.out
      rw [HV.out, if_pos rfl] at h2
      rw [HLK.out, h2]
      simp
     have HE := Lib.hid hend
     have hfin := RupS.refl H
     have HF := Lib.hid hfin
     clear hend hfin
     go_wp2_with fail
     refine (rup_so_any H o x hx 1 HV.out).mono ?_
     rintro e w' ⟨rfl, rfl⟩
     go_wp2_with fail
     go_ret
     rw [HE.out]
     exact ⟨rfl, HF.out, o⟩
    ·have HV := Lib.hid hv
     clear hv
     go_wp2_with fail
     refine (rup_so_any H o x hx (-1) HV.out).mono ?_
     rintro e w' ⟨rfl, rfl⟩
     go_wp2_with fail
     go_round
     case rel =>
      refine ⟨j + 1, op, by go_num, rfl, by omega, ?_, HOp.out⟩
      unfold LookTo
      rw [HL.out, HV.out]
      simp
     case measure => simp [intOf]; omega
   ·have hj' : j = c.length := by omega
    have hL2 : Cnf.fol C.set c 0 0 = Cnf.folEnd op (if op = 0 then 0 else 1) := by
     unfold LookTo at hL
     rw [hL, hj', List.drop_length]
     rfl
    by_cases ho : op = 0
    ·subst ho
     have hend : C.lookF C.set k = (C.set, false) := by
      rw [HLK.out, hL2]
      simp [Cnf.folEnd]
     have HE := Lib.hid hend
     have hfin := RupS.refl H
     have HF := Lib.hid hfin
     clear hend hfin hL hL2
     go_wp2_with fail
     go_ret
     rw [HE.out]
     exact ⟨rfl, HF.out, o⟩
    ·have hend : C.lookF C.set k = (C.set ++ [op], true) := by
      rw [HLK.out, hL2]
      simp [Cnf.folEnd, ho]
     have HE := Lib.hid hend
     have hne : (op != 0) = true := bne_iff_ne.2 ho
     have hop := HOp.out ho
     have hok := o.snoc ⟨ho, hop.1⟩ hop.2
     have hput := rup_put_new H o op ⟨ho, hop.1⟩ hop.2
     have HP := Lib.hid hput
     clear hend hL hL2 hop ho hput
     go_wp2_with fail
     refine HP.out.mono ?_
     rintro e w' ⟨rfl, hto⟩
     go_wp2_with fail
     go_ret
     rw [HE.out]
     exact ⟨rfl, hto, hok⟩
 ·rw [hgk] at qg
  have hlk : C.lookF C.set k = (C.set, true) := by unfold Rup.Chk.lookF; rw [hgk]; rfl
  rw [hlk]
  have hfin := RupS.refl H
  have HF := Lib.hid hfin
  have kb : k < C.gone.length := by omega
  clear hfin hgk hlk qc hci hlen hul
  go_enter Tryz.func164, Tryz.ntmps164
  go_wp2_with fail
  go_ret
  exact ⟨rfl, HF.out, o⟩
end
section
variable {w : World} {g : Tag} {b : Nat} {V : RupV} {C : Rup.Chk}
set_option maxHeartbeats 1600000 in
theorem rup_back_any (H : ChkAt w g b V C) (o : C.Ok) (bc : Nat) (hbc : w.cell? ⟨bc, 0, none⟩ = some (.pointer (some ⟨b, 0, none⟩))) (hgc : (g bc).1 = 0) (hlc : bc < w.heap.size) (u : FrameMode) :
  CallsD Tryz.prog 162 #[.pointer (some ⟨bc, 0, none⟩)] u w fun e u' w' => u' = u ∧ (e = .returned (.tuple #[]) ∧ RupS w g b V { C with set := [] } w') := by
 have hn := o.n
 have hlen := Rup.valL_len C.n C.set
 have hset := o.set
 have hSl := o.set.len
 obtain ⟨as_, cs, hvs, hs1, hs2⟩ := H.s.shape
 have q5 := H.f5
 have hrs := H.s
 rw [hvs] at q5 hrs
 simp only [List.length_map] at q5 hrs hs1
 have HSet := Lib.hid hset
 clear hset
 go_enter_d Tryz.func162, Tryz.ntmps162
 go_wp2_with fail
 go_loopw [8] (fun v wr => ∃ j : Nat, v = .int .i64 j ∧ j ≤ C.set.length ∧ Row wr g (5, 0) 3 V.vv ((Rup.valBack C.n C.set j).map cI) ∧ Only (fun k => g k = (5, 0)) w wr) (fun v _ => C.set.length - (intOf v).toNat)
 case atStart => exact ⟨0, rfl, Nat.zero_le _, by rw [Rup.valBack_zero]; exact H.v, Only.refl _ _⟩
 case round =>
  obtain ⟨j, rfl, hj, hv, ho⟩ := hrel
  have hcb := only_block H.blk ho (by rw [H.tb]; simp)
  have q4 : wr.cell? ⟨b, 4, none⟩ = some V.vv := by rw [cell_block hcb]; rfl
  have q5' : wr.cell? ⟨b, 5, none⟩ = some V.vs := by rw [cell_block hcb]; rfl
  have f5' := free_block hcb 5
  have qc : wr.cell? ⟨bc, 0, none⟩ = some (.pointer (some ⟨b, 0, none⟩)) := by
   rw [World.cell?_of_block (w := w) (ho.block bc hlc (by intro e; rw [e] at hgc; simp at hgc))]; exact hbc
  by_cases cj : j < C.set.length
  ·have hrs2 := hrs.only ho (fun k hk hF => by rw [hk] at hF; simp at hF)
   obtain ⟨gs, cap, he, -, -, htg, -⟩ := hrs2.pos (by simp; omega)
   simp only [Value.slice.injEq] at he
   obtain ⟨rfl, -, rfl⟩ := he
   have qx := hrs2.cellM (f := cI) 0 (i := j) cj
   have hx := HSet.out.lit _ (getD_mem' 0 cj)
   have hbs := Rup.valBack_succ C.n C.set cj hx
   have hlb := Rup.valBack_len C.n C.set j
   obtain ⟨gv, capv, hvv, -, -, htv, -⟩ := hv.pos (by simp [hlb]; omega)
   have hv2 := hv
   rw [hvv] at q4 hv2
   simp only [List.length_map, hlb] at q4 hv2
   have hgb : gv ≠ b := by intro e; rw [e, H.tb] at htv; simp at htv
   clear hv hrs2
   generalize C.set.getD j 0 = x at *
   obtain ⟨h0, h1⟩ := hx
   have HBS := Lib.hid hbs
   clear hbs
   by_cases hneg : x < 0
   ·have q1 := hv2.cellM (f := cI) 0 (i := (-x).toNat - 1) (by rw [hlb]; omega)
    have f1 := hv2.free ((-x).toNat - 1)
    have b1 : -65536 ≤ x := by omega
    have b2 : -x ≤ (C.n : Int) := by omega
    have em : max x (-x) = -x := by omega
    have hst := hv2.store ((-x).toNat - 1) (cI 0)
    have hst' : Row (wr.setCell ⟨gv, (-x).toNat - 1, none⟩ (cI 0)) g (5, 0) 3 V.vv ((Rup.valBack C.n C.set (j + 1)).map cI) := by
     rw [HBS.out, hvv, show x.natAbs - 1 = (-x).toNat - 1 by omega, List.map_set]
     simpa [hlb] using hst
    have HST := Lib.hid hst'
    have ho' : Only (fun k => g k = (5, 0)) w (wr.setCell ⟨gv, (-x).toNat - 1, none⟩ (cI 0)) := ho.setCell (.inl htv) _
    generalize (Rup.valBack C.n C.set j).getD ((-x).toNat - 1) 0 = z at *
    clear hst hst' h1 hlb hlen
    go_wp2_with fail
    go_roundw
    case rel => exact ⟨j + 1, by go_num, by omega, HST.out, ho'⟩
    case measure => simp [intOf]; omega
   ·have b0 : 0 < x := by omega
    have q1 := hv2.cellM (f := cI) 0 (i := x.toNat - 1) (by rw [hlb]; omega)
    have f1 := hv2.free (x.toNat - 1)
    have b1 : x ≤ 65536 := by omega
    have b2 : x ≤ (C.n : Int) := by omega
    have em : max x (-x) = x := by omega
    have hst := hv2.store (x.toNat - 1) (cI 0)
    have hst' : Row (wr.setCell ⟨gv, x.toNat - 1, none⟩ (cI 0)) g (5, 0) 3 V.vv ((Rup.valBack C.n C.set (j + 1)).map cI) := by
     rw [HBS.out, hvv, show x.natAbs - 1 = x.toNat - 1 by omega, List.map_set]
     simpa [hlb] using hst
    have HST := Lib.hid hst'
    have ho' : Only (fun k => g k = (5, 0)) w (wr.setCell ⟨gv, x.toNat - 1, none⟩ (cI 0)) := ho.setCell (.inl htv) _
    generalize (Rup.valBack C.n C.set j).getD (x.toNat - 1) 0 = z at *
    clear hst hst' h1 hlb hlen hneg
    go_wp2_with fail
    go_roundw
    case rel => exact ⟨j + 1, by go_num, by omega, HST.out, ho'⟩
    case measure => simp [intOf]; omega
  ·have hj' : j = C.set.length := by omega
   have hfin := H.pushed (S' := []) (vs' := nilS) (by rw [hj', Rup.valBack_all] at hv; exact hv) ho (w2 := wr) (Row.nil _ _ _ _) (Only.refl _ _)
   have HF := Lib.hid hfin
   clear hfin hv hcb hrs
   go_wp2_with fail
   go_end0
   exact ⟨rfl, HF.out⟩
def Rup.Chk.at (C : Rup.Chk) (S : List Int) : Rup.Chk := { C with set := S }
structure Seek (w : World) (g : Tag) (b : Nat) (V : RupV) (C : Rup.Chk) (bc : Nat) (S : List Int) (wr : World) (g1 : Tag) (vs1 : Value) : Prop where
 at_ : ChkAt wr g1 b { V with vs := vs1 } (C.at S)
 ok : (C.at S).Ok
 ag : Agree w g g1
 only : Only (fun k => T156 (g k).1) w wr
 cell : wr.cell? ⟨bc, 0, none⟩ = some (.pointer (some ⟨b, 0, none⟩))
 tag : (g1 bc).1 = 0
 lt : bc < w.heap.size
theorem Seek.next {bc : Nat} {S S2 : List Int} {wr w2 : World} {g1 : Tag} {vs1 : Value} (h : Seek w g b V C bc S wr g1 vs1) (h2 : RupS wr g1 b { V with vs := vs1 } (C.at S2) w2) (o2 : (C.at S2).Ok) :
  ∃ g2 vs2, Seek w g b V C bc S2 w2 g2 vs2 := by
 obtain ⟨g2, vs2, H2, A2, O2⟩ := h2
 have hlt : bc < wr.heap.size := Nat.lt_of_lt_of_le h.lt h.only.size
 refine ⟨g2, vs2, H2, o2, h.ag.trans A2 h.only.size, h.only.tags h.ag O2, ?_, ?_, h.lt⟩
 ·rw [World.cell?_of_block (w := wr) (O2.block bc hlt (by rw [h.tag]; simp [T156]))]; exact h.cell
 ·rw [A2 bc hlt]; exact h.tag
theorem Seek.back {bc : Nat} {S : List Int} {wr : World} {g1 : Tag} {vs1 : Value} (h : Seek w g b V C bc S wr g1 vs1) (hC : C.set = []) (u : FrameMode) :
  CallsD Tryz.prog 162 #[.pointer (some ⟨bc, 0, none⟩)] u wr fun e u' w' => u' = u ∧ (e = .returned (.tuple #[]) ∧ RupTo w g b C w') := by
 refine (rup_back_any h.at_ h.ok bc h.cell h.tag (Nat.lt_of_lt_of_le h.lt h.only.size) u).mono ?_
 rintro e u' w' ⟨rfl, rfl, h2⟩
 refine ⟨rfl, rfl, ?_⟩
 have e : ({ C.at S with set := [] } : Rup.Chk) = C := by cases C; simp at hC; subst hC; rfl
 rw [e] at h2
 exact (RupS.trans h.ag h.only h2).to
theorem Good_open {n : Nat} {l : List Int} (h : Up.Good n l) {k : Nat} (hk : k < l.length) : Cnf.value (l.take k) (l.getD k 0) = 0 := by
 have e : l.getD k 0 = l[k] := by simp [List.getD_eq_getElem?_getD, hk]
 have hP := List.pairwise_iff_getElem.1 (List.pairwise_map.1 h.nod)
 rw [Up.value_zero, e]
 constructor
 ·intro hm
  obtain ⟨i, hi, he⟩ := List.getElem_of_mem hm
  simp at hi he
  have := hP i k (by omega) hk (by omega)
  rw [he] at this; exact this rfl
 ·intro hm
  obtain ⟨i, hi, he⟩ := List.getElem_of_mem hm
  simp at hi he
  have := hP i k (by omega) hk (by omega)
  rw [he] at this; simp at this
theorem rup_place_quiet {n : Nat} (x : Int) (m : Nat) (hm : m ≤ 65536) (hx : x ≠ 0 ∧ x.natAbs ≤ m) (p : Int) (hp : p = (Rup.place x : Int)) : Calls Tryz.prog 139 #[.int .i64 x] (w.drewN n) fun e w'' => e = .returned (.int .i64 p) ∧ ∃ m, w'' = w.drewN m :=
 Calls.quiet_of_same ((rup_place_any x m hm hx p hp).mono fun _ _ h => ⟨h.1, h.2.symm⟩)
theorem range_drop {m k : Nat} (h : k < m) : (List.range m).drop k = k :: (List.range m).drop (k + 1) := by
 rw [List.drop_eq_getElem_cons (by simpa using h)]; simp
theorem Seek.drewN {bc : Nat} {S : List Int} {wr : World} {g1 : Tag} {vs1 : Value} (h : Seek w g b V C bc S wr g1 vs1) (n : Nat) : Seek w g b V C bc S (wr.drewN n) g1 vs1 :=
 ⟨h.at_.only0 ((Only.refl _ _).drewN n), h.ok, h.ag, h.only.drewN n, h.cell, h.tag, h.lt⟩
def SeekTo (R : Bool) (p : List Int × Bool) : Prop := R = p.2
theorem SeekTo.look {R : Bool} {C : Rup.Chk} {k : Nat} {ks : List Nat} {S : List Int} {f : List Int → List Int × Bool} (h : SeekTo R (Cnf.andThen (Cnf.pass (C.liveOf (k :: ks)) S) f)) :
  ((C.lookF S k).2 = true → SeekTo R (Cnf.andThen (Cnf.pass (C.liveOf ks) (C.lookF S k).1) f)) ∧ ((C.lookF S k).2 = false → R = true) := by
 unfold SeekTo at *
 rw [Rup.pass_look] at h
 refine ⟨fun e => ?_, fun e => ?_⟩
 ·rw [e] at h; simpa using h
 ·rw [e] at h; simpa [Cnf.andThen] using h
theorem look_len (C : Rup.Chk) (S : List Int) (k : Nat) : S.length ≤ (C.lookF S k).1.length := by
 unfold Rup.Chk.lookF
 split
 ·exact Nat.le_refl _
 ·split
  ·exact Nat.le_refl _
  ·split
   ·simp
   ·exact Nat.le_refl _
theorem ofN_lt {cls : List (List Int)} {p k : Nat} (h : k ∈ Rup.ofN cls p) : k < cls.length := by
 unfold Rup.ofN at h
 exact List.mem_range.1 (List.mem_filter.1 h).1
theorem getD_map_cast (ks : List Nat) (j : Nat) (h : j < ks.length) : (ks.map fun k => ((k : Nat) : Int)).getD j 0 = ((ks.getD j 0 : Nat) : Int) := by
 simp [List.getD_eq_getElem?_getD, h]
set_option maxHeartbeats 6400000 in
theorem rup_conflict_any (H : ChkAt w g b V C) (o : C.Ok) (hC : C.set = []) {vl : Value} {l : List Int} (hI : Ints w vl l) (hN : NotMine g vl l) (hl : Up.Good C.n l) :
  Calls Tryz.prog 137 #[.pointer (some ⟨b, 0, none⟩), vl] w fun e w' => e = .returned (.bool (Up.conf C.n C.live l).2) ∧ RupTo w g b C w' := by
 have hmf : ∀ (fn : Fn) (first cap : Array Value) (w : World), (Instr.makeFunc fn first cap).run Tryz.prog w = .ok (.func fn first cap) w := fun _ _ _ _ => rfl
 obtain ⟨al, cl, rfl, hl1, hl2⟩ := hI.shape
 have hI0 : Ints (w.alloc (.cells #[.pointer (some ⟨b, 0, none⟩)] 92)) (.slice al l.length cl) l := hI.only0 ((Only.refl _ _).alloc _)
 have hs0 : Seek (w.alloc (.cells #[.pointer (some ⟨b, 0, none⟩)] 92)) g b V C w.heap.size [] (w.alloc (.cells #[.pointer (some ⟨b, 0, none⟩)] 92)) g V.vs := by
  have e : C.at [] = C := by cases C; simp at hC; subst hC; rfl
  refine ⟨?_, by rw [e]; exact o, Agree.refl _ _, Only.refl _ _, cell_newE _ _ _ _ rfl, H.fresh _ (Nat.le_refl _), by simp⟩
  rw [e]; exact H.only0 ((Only.refl _ _).alloc _)
 have hto : ∀ w', RupTo (w.alloc (.cells #[.pointer (some ⟨b, 0, none⟩)] 92)) g b C w' → RupTo w g b C w' := fun w' h =>
  RupTo.trans (Agree.refl _ _) ((Only.refl _ w).alloc _) h
 have HTo := Lib.hid hto
 have HSt := Lib.hid hs0
 clear hto hs0
 have hn := o.n
 have hfew := o.few
 have hR0 : SeekTo (Up.conf C.n C.live l).2 (Cnf.andThen (Cnf.pass (C.liveOf ((List.range C.cls.length).drop 0)) l) (Up.work C.live (C.n + 1) 0)) := rfl
 generalize (Up.conf C.n C.live l).2 = R at *
 have HR0 := Lib.hid hR0
 clear hR0
 have HL := Lib.hid hl
 have HC := Lib.hid hC
 clear hl hC
 go_enter_defers Tryz.func137, Tryz.ntmps137
 go_wp2_with fail
 generalize hW : w.alloc (.cells #[.pointer (some ⟨b, 0, none⟩)] 92) = W at *
 clear hW
 generalize w.heap.size = B at *
 go_loopw [14] (fun v wr => ∃ (k : Nat) (g1 : Tag) (vs1 : Value), v = .int .i64 k ∧ k ≤ l.length ∧ Seek W g b V C B (l.take k) wr g1 vs1) (fun v _ => l.length - (intOf v).toNat)
 case atStart => exact ⟨0, g, V.vs, rfl, Nat.zero_le _, HSt.out⟩
 case round =>
  obtain ⟨k, g1, vs1, rfl, hk, hS⟩ := hrel
  have qB := hS.cell
  by_cases ck : k < l.length
  ·have hIr := hI0.mine hN (hS.only.mono fun k hk => by unfold Mine; rcases hk with h | h | h <;> omega)
   obtain ⟨bl, ol, rfl, _, hcs⟩ := hIr.cells _ _ _ rfl (by omega)
   have q := hcs k ck
   have hx := HL.out.lit _ (getD_mem' 0 ck)
   have hv := Good_open HL.out ck
   have hts := take_snocI l k ck
   have HTS := Lib.hid hts
   have hput := rup_put_new hS.at_ hS.ok _ hx hv
   have hok := hS.ok.snoc hx hv
   have HP := Lib.hid hput
   have HOk := Lib.hid hok
   clear hcs hIr hts hput hok hv
   generalize l.getD k 0 = x at *
   go_wp2_with fail
   refine HP.out.mono ?_
   rintro e w' ⟨rfl, h2⟩
   obtain ⟨g2, vs2, hS2⟩ := hS.next (S2 := l.take k ++ [x]) h2 HOk.out
   clear h2
   go_wp2_with fail
   go_roundw
   case rel => exact ⟨k + 1, g2, vs2, by go_num, by omega, by rw [HTS.out]; exact hS2⟩
   case measure => simp [intOf]; omega
  ·have hk' : k = l.length := by omega
   have hS' : Seek W g b V C B l wr g1 vs1 := by rw [hk', List.take_of_length_le (Nat.le_refl _)] at hS; exact hS
   have q1 := hS'.at_.f1
   obtain ⟨ac, cc, hvc, hc1, hc2⟩ := hS'.at_.c.shape
   have hul := hS'.at_.ci.1
   simp only at hvc q1 hc1 hul
   have hul' : V.us.length = C.cls.length := hul
   rw [hvc, hul'] at q1
   clear hS hvc hul hul' hc1
   go_wp2_with fail
   go_loopw [28] (fun v wr => ∃ (k : Nat) (S : List Int) (g1 : Tag) (vs1 : Value), v = .int .i64 k ∧ k ≤ C.cls.length ∧ Seek W g b V C B S wr g1 vs1 ∧ SeekTo R (Cnf.andThen (Cnf.pass (C.liveOf ((List.range C.cls.length).drop k)) S) (Up.work C.live (C.n + 1) 0))) (fun v _ => C.cls.length - (intOf v).toNat)
   case atStart => exact ⟨0, l, g1, vs1, rfl, Nat.zero_le _, hS', HR0.out⟩
   case round =>
    clear hS' qB q1 hk'
    obtain ⟨k, S, g1, vs1, rfl, hk, hS, hT⟩ := hrel
    have qB := hS.cell
    by_cases ck : k < C.cls.length
    ·rw [range_drop ck] at hT
     obtain ⟨t1, t2⟩ := hT.look
     have T1 := Lib.hid t1
     have T2 := Lib.hid t2
     have hlook := rup_look_any hS.at_ hS.ok k ck _ rfl
     have HLk := Lib.hid hlook
     clear t1 t2 hT hlook
     cases hb : (C.lookF S k).2
     ·have HB := Lib.hid hb
      clear hb
      go_wp2_with fail
      refine HLk.out.mono ?_
      rintro e w' ⟨rfl, h2, o2⟩
      obtain ⟨g2, vs2, hS2⟩ := hS.next (S2 := (C.lookF S k).1) h2 o2
      have hbb : ((C.at S).lookF (C.at S).set k).2 = false := HB.out
      rw [hbb]
      clear h2 o2 hbb
      go_wp2_with fail
      refine leaves_cons (f := 162) (args := #[.pointer (some ⟨B, 0, none⟩)]) (by simp) (by simp [go_sem]) ?_
      refine (hS2.back HC.out .returning).mono ?_
      rintro e u' w'' ⟨rfl, rfl, hfin⟩
      exact ⟨_, results_tmp rfl _ _ _, by rw [T2.out HB.out]; rfl, HTo.out _ hfin⟩
     ·have HB := Lib.hid hb
      clear hb
      go_wp2_with fail
      refine HLk.out.mono ?_
      rintro e w' ⟨rfl, h2, o2⟩
      obtain ⟨g2, vs2, hS2⟩ := hS.next (S2 := (C.lookF S k).1) h2 o2
      have hbb : ((C.at S).lookF (C.at S).set k).2 = true := HB.out
      rw [hbb]
      clear h2 o2 hbb
      go_wp2_with fail
      go_roundw
      case rel => exact ⟨k + 1, _, g2, vs2, by go_num, by omega, hS2, T1.out HB.out⟩
      case measure => simp [intOf]; omega
    ·have hT3 : SeekTo R (Up.work C.live (C.n + 1) 0 S) := by
      rw [List.drop_of_length_le (by simp; omega)] at hT
      simpa [Rup.Chk.liveOf, Cnf.pass, Cnf.andThen] using hT
     have HT3 := Lib.hid hT3
     clear hT hT3
     go_wp2_with fail
     go_loopw [8] (fun v wr => ∃ (i : Nat) (S : List Int) (g1 : Tag) (vs1 : Value), v = .int .i64 i ∧ i ≤ S.length ∧ Seek W g b V C B S wr g1 vs1 ∧ SeekTo R (Up.work C.live (C.n + 1 - i) i S)) (fun v _ => C.n + 1 - (intOf v).toNat)
     case atStart => exact ⟨0, S, g1, vs1, rfl, Nat.zero_le _, hS, HT3.out⟩
     case round =>
      clear hS qB
      obtain ⟨i, S, g1, vs1, rfl, hi, hS, hT⟩ := hrel
      have qB := hS.cell
      have q5 := hS.at_.f5
      have hrs := hS.at_.s
      have hSl : S.length ≤ C.n := hS.ok.set.len
      simp only at q5 hrs
      obtain ⟨as_, cs, rfl, hs1, hs2⟩ := hrs.shape
      have hSe : (C.at S).set = S := rfl
      rw [hSe] at hrs hs1 q5
      simp only [List.length_map] at q5 hrs hs1
      by_cases ci : i < S.length
      ·obtain ⟨gs, cap, he, -, -, -, -⟩ := hrs.pos (by simp; omega)
       simp only [Value.slice.injEq] at he
       obtain ⟨rfl, -, rfl⟩ := he
       have qx := hrs.cellM (f := cI) 0 (i := i) ci
       have hx : S.getD i 0 ≠ 0 ∧ (S.getD i 0).natAbs ≤ C.n := hS.ok.set.lit _ (getD_mem' 0 ci)
       have hpl := Rup.place_lt hx
       have hlo : C.liveOf (Rup.ofN C.cls (Rup.place (S.getD i 0))) = C.live.filter fun c => c.contains (-(S.getD i 0)) := Rup.live_of (C.at S) hS.ok hx.1
       have hol : V.os.length = 2 * C.n := hS.at_.ol
       obtain ⟨go_, capo, hvo, -, -, -, -⟩ := hS.at_.o.pos (by simp only; omega)
       have hro := hS.at_.o
       have q3 := hS.at_.f3
       simp only at hvo hro q3
       rw [hvo] at hro q3
       have hT4 : SeekTo R (Cnf.andThen (Cnf.pass (C.liveOf ((Rup.ofN C.cls (Rup.place (S.getD i 0))).drop 0)) S) (Up.work C.live (C.n - i) (i + 1))) := by
        rw [show C.n + 1 - i = (C.n - i) + 1 by omega, Up.work, if_pos ci, ← hlo] at hT
        exact hT
       have HT4 := Lib.hid hT4
       generalize hxe : S.getD i 0 = x at *
       obtain ⟨p, hp⟩ : ∃ p, p = Rup.place x := ⟨_, rfl⟩
       rw [← hp] at hpl HT4
       have qu := hro.cell nilS (i := p) (by omega)
       have hru := hS.at_.oi p hpl
       have hku := fun k hk => ofN_lt (cls := C.cls) (p := p) (k := k) hk
       have hce : (C.at S).of p = Rup.ofL C.cls p := hS.ok.of_ p hpl
       rw [hce, Rup.ofL] at hru
       have hosD : V.os.getD p nilS = V.os.getD p nilS := rfl
       have hkl : (Rup.ofN C.cls p).length ≤ 1000000 := by
        have := List.length_filter_le (fun k => (C.cls.getD k []).any fun l => Rup.place (-l) == p) (List.range C.cls.length)
        unfold Rup.ofN
        simp at this ⊢
        omega
       generalize hks : Rup.ofN C.cls p = ks at *
       have HKS := Lib.hid hks
       rw [hol] at q3
       generalize hm2 : 2 * C.n = m2 at *
       have HM2 := Lib.hid hm2.symm
       clear hks hm2
       obtain ⟨au, cu, hvu, hu1, hu2⟩ := hru.shape
       rw [hvu] at qu
       simp only [List.length_map] at qu hu1 hvu
       have HKU := Lib.hid hku
       have HPl := Lib.hid hp
       have HVU := Lib.hid hvu
       have pb1 : (0 : Int) ≤ (p : Int) := by omega
       have pb2 : (p : Int) < (m2 : Int) := by omega
       have ib1 : (i : Int) < (S.length : Int) := by omega
       clear hku hp hvu hT hT4 hlo hru hro hvo hosD hxe hol
       go_wp2_with fail
       go_quiet ((go_at_call 139; exact rup_place_quiet x C.n hn hx (p : Int) (by rw [HPl.out])))
       have hS0 := hS.drewN nq
       clear hS qB q5 hrs qx q3 qu
       go_wp2_with fail
       go_loopw [60] (fun v wr => ∃ (j : Nat) (S : List Int) (g1 : Tag) (vs1 : Value), v = .int .i64 j ∧ j ≤ ks.length ∧ i < S.length ∧ Seek W g b V C B S wr g1 vs1 ∧ SeekTo R (Cnf.andThen (Cnf.pass (C.liveOf (ks.drop j)) S) (Up.work C.live (C.n - i) (i + 1)))) (fun v _ => ks.length - (intOf v).toNat)
       case atStart => exact ⟨0, S, g1, _, rfl, Nat.zero_le _, ci, hS0, HT4.out⟩
       case round =>
        clear hS0 hs1 ci hi ib1 hSl
        obtain ⟨j, S, g1, vs1, rfl, hj, hiS, hS, hT⟩ := hrel
        have qB := hS.cell
        by_cases cj : j < ks.length
        ·have hru := hS.at_.oi p (HM2.out ▸ hpl)
         have hce : (C.at S).of p = Rup.ofL C.cls p := hS.ok.of_ p (HM2.out ▸ hpl)
         rw [hce, Rup.ofL, HKS.out, HVU.out] at hru
         obtain ⟨gu, cap, he, -, -, -, -⟩ := hru.pos (by simp; omega)
         simp only [Value.slice.injEq] at he
         obtain ⟨rfl, -, rfl⟩ := he
         have qk := hru.cellM (f := cI) 0 (i := j) (by simpa using cj)
         rw [getD_map_cast ks j cj] at qk
         have hk := HKU.out _ (getD_mem' 0 cj)
         rw [List.drop_eq_getElem_cons cj, show ks[j] = ks.getD j 0 by simp [List.getD_eq_getElem?_getD, cj]] at hT
         obtain ⟨t1, t2⟩ := hT.look
         have T1 := Lib.hid t1
         have T2 := Lib.hid t2
         have hlook := rup_look_any hS.at_ hS.ok (ks.getD j 0) hk _ rfl
         have HLk := Lib.hid hlook
         have hle := look_len C S (ks.getD j 0)
         clear t1 t2 hT hlook hru
         generalize ks.getD j 0 = kk at *
         cases hb : (C.lookF S kk).2
         ·have HB := Lib.hid hb
          clear hb
          go_wp2_with fail
          refine HLk.out.mono ?_
          rintro e w' ⟨rfl, h2, o2⟩
          obtain ⟨g2, vs2, hS2⟩ := hS.next (S2 := (C.lookF S kk).1) h2 o2
          have hbb : ((C.at S).lookF (C.at S).set kk).2 = false := HB.out
          rw [hbb]
          clear h2 o2 hbb
          go_wp2_with fail
          refine leaves_cons (f := 162) (args := #[.pointer (some ⟨B, 0, none⟩)]) (by simp) (by simp [go_sem]) ?_
          refine (hS2.back HC.out .returning).mono ?_
          rintro e u' w'' ⟨rfl, rfl, hfin⟩
          exact ⟨_, results_tmp rfl _ _ _, by rw [T2.out HB.out]; rfl, HTo.out _ hfin⟩
         ·have HB := Lib.hid hb
          clear hb
          go_wp2_with fail
          refine HLk.out.mono ?_
          rintro e w' ⟨rfl, h2, o2⟩
          obtain ⟨g2, vs2, hS2⟩ := hS.next (S2 := (C.lookF S kk).1) h2 o2
          have hbb : ((C.at S).lookF (C.at S).set kk).2 = true := HB.out
          rw [hbb]
          clear h2 o2 hbb
          go_wp2_with fail
          go_roundw
          case rel => exact ⟨j + 1, (C.lookF S kk).1, g2, vs2, by go_num, by omega, by omega, hS2, T1.out HB.out⟩
          case measure => simp [intOf]; omega
        ·have hT5 : SeekTo R (Up.work C.live (C.n - i) (i + 1) S) := by
          rw [List.drop_of_length_le (by omega)] at hT
          simpa [Rup.Chk.liveOf, Cnf.pass, Cnf.andThen] using hT
         have HT5 := Lib.hid hT5
         have hSl : S.length ≤ C.n := hS.ok.set.len
         clear hT hT5
         go_wp2_with fail
         go_roundw
         case rel => exact ⟨i + 1, S, g1, vs1, by go_num, by omega, hS, by rw [show C.n + 1 - (i + 1) = C.n - i by omega]; exact HT5.out⟩
         case measure => simp [intOf]; omega
      ·have hR : R = false := by
        unfold SeekTo at hT
        rw [show C.n + 1 - i = (C.n - i) + 1 by omega, Up.work, if_neg ci] at hT
        exact hT
       subst hR
       clear hT
       go_wp2_with fail
       refine leaves_cons (f := 162) (args := #[.pointer (some ⟨B, 0, none⟩)]) (by simp) (by simp [go_sem]) ?_
       refine (hS.back HC.out .returning).mono ?_
       rintro e u' w'' ⟨rfl, rfl, hfin⟩
       exact ⟨_, results_tmp rfl _ _ _, rfl, HTo.out _ hfin⟩
end
attribute [local go_sem ↓] Go.wp_at_zero Go.wp_at_succ
section
variable {w : World} {g : Tag} {b : Nat} {V : RupV} {C : Rup.Chk}
theorem rup_is_any (H : ChkAt w g b V C) (hn : C.n ≤ 65536) (x : Int) (hx : InI64 x) (r : Bool) (hr : Cnf.okAt C.n x = r) :
  Calls Tryz.prog 100 #[.pointer (some ⟨b, 0, none⟩), .int .i64 x] w fun e w' => e = .returned (.bool r) ∧ w = w' := by
 subst hr
 have q0 := H.f0
 obtain ⟨h1, h2⟩ := hx
 clear H
 generalize C.n = n at *
 by_cases h0 : x = 0
 ·subst h0
  go_enter Tryz.func100, Tryz.ntmps100
  go_wp2
  go_ret
  exact ⟨rfl, rfl⟩
 ·have k0 : (x != 0) = true := bne_iff_ne.2 h0
  by_cases hm : x = -9223372036854775808
  ·subst hm
   go_enter Tryz.func100, Tryz.ntmps100
   go_wp2
   go_ret
   exact ⟨rfl, rfl⟩
  ·have k1 : (x != -9223372036854775808) = true := bne_iff_ne.2 hm
   have hw : Cnf.wr x = false := by
    unfold Cnf.wr Cnf.minI
    simp only [Bool.or_eq_false_iff, beq_eq_false_iff_ne]
    exact ⟨h0, hm⟩
   have hb : -9223372036854775807 ≤ x := by omega
   have e : Cnf.okAt n x = decide (max x (-x) ≤ (n : Int)) := by
    unfold Cnf.okAt
    rw [hw]
    simp only [Bool.not_false, Bool.true_and]
    rw [show (x.natAbs : Int) = max x (-x) by omega]
   rw [e]
   clear hm h1 hw e h0
   go_enter Tryz.func100, Tryz.ntmps100
   go_wp2
   go_ret
   exact ⟨rfl, rfl⟩
theorem rup_form1_any (H : ChkAt w g b V C) (hn : C.n ≤ 65536) (bc : Nat) (hbc : w.cell? ⟨bc, 0, none⟩ = some (.pointer (some ⟨b, 0, none⟩))) (x : Int) (hx : InI64 x) :
  Calls Tryz.prog 138 #[.int .i64 x, .pointer (some ⟨bc, 0, none⟩)] w fun e w' => e = .returned (.bool (!Cnf.okAt C.n x)) ∧ w = w' := by
 have hc := rup_is_any H hn x hx _ rfl
 have HC := Lib.hid hc
 clear hc H
 generalize Cnf.okAt C.n x = r at *
 go_enter Tryz.func138, Tryz.ntmps138
 go_wp2_with fail
 refine HC.out.mono ?_
 rintro e w' ⟨rfl, rfl⟩
 go_wp2_with fail
 go_ret
 exact ⟨rfl, rfl⟩
namespace Rup
def formR (n : Int) (c : List Int) : Option (List Int) := if Cnf.right n c then Cnf.form c else none
theorem form_mem {c f : List Int} (h : Cnf.form c = some f) : ∀ x, x ∈ f ↔ x ∈ c := by
 unfold Cnf.form at h
 split at h
 ·cases h
 ·split at h
  ·cases h
  ·simp at h; subst h; exact Cnf.mem_formL c
theorem formR_some {n : Int} {c f : List Int} (h : Cnf.form c = some f) : formR n c = if f.any (fun x => !Cnf.okAt n x) then none else some f := by
 have hm := form_mem h
 unfold formR Cnf.right
 rw [h]
 have e : f.any (fun x => !Cnf.okAt n x) = !c.all (Cnf.okAt n) := by
  rw [Bool.eq_iff_iff]
  simp only [List.any_eq_true, Bool.not_eq_true', List.all_eq_false]
  constructor
  ·rintro ⟨x, hx, hk⟩; exact ⟨x, (hm x).1 hx, by simpa using hk⟩
  ·rintro ⟨x, hx, hk⟩; exact ⟨x, (hm x).2 hx, by simpa using hk⟩
 rw [e]
 cases c.all (Cnf.okAt n) <;> simp
end Rup
def RupFormPost (w : World) (n : Int) (xs : List Int) (e : Ending) (w' : World) : Prop :=
 match Rup.formR n xs with
 | none => e = .returned (.tuple #[.slice none 0 0, .bool false]) ∧ Only (fun _ => False) w w'
 | some l => ∃ v, e = .returned (.tuple #[v, .bool true]) ∧ w'.ownsRow 0 3 1 v l.length (l.map cI) ∧ (∀ k, v.ownBlock = some k → w.heap.size ≤ k) ∧ Only (fun _ => False) w w'
theorem form_range {xs f : List Int} (h : ∀ x ∈ xs, InI64 x) (hf : Cnf.form xs = some f) : ∀ x ∈ f, InI64 x := fun x hx => h x ((Rup.form_mem hf x).1 hx)
set_option maxHeartbeats 800000 in
theorem rup_form_any (H : ChkAt w g b V C) (hn : C.n ≤ 65536) {v : Value} {xs : List Int} (hI : Ints w v xs) (hb : xs.length ≤ 1099511627776) :
  Calls Tryz.prog 102 #[.pointer (some ⟨b, 0, none⟩), v] w (RupFormPost w C.n xs) := by
 have hmf : ∀ (fn : Fn) (first cap : Array Value) (w : World), (Instr.makeFunc fn first cap).run Tryz.prog w = .ok (.func fn first cap) w := fun _ _ _ _ => rfl
 have eg : ∀ args w, (callFunc 138 args).run Tryz.prog w = .ok (.enter 138 args) w := enters_of Tryz.func138 (by kernel_rfl) rfl
 have HEg := Lib.hid eg
 clear eg
 have hO0 : Only (fun _ => False) w (w.alloc (.cells #[.pointer (some ⟨b, 0, none⟩)] 92)) := (Only.refl _ _).alloc _
 have hc0 : (w.alloc (.cells #[.pointer (some ⟨b, 0, none⟩)] 92)).cell? ⟨w.heap.size, 0, none⟩ = some (.pointer (some ⟨b, 0, none⟩)) := cell_newE _ _ _ _ rfl
 have hl0 : w.heap.size < (w.alloc (.cells #[.pointer (some ⟨b, 0, none⟩)] 92)).heap.size := by simp
 have hF := Form_any (hI.only0 hO0) hb
 have HF := Lib.hid hF
 have hrng := hI.range
 have HRg := Lib.hid hrng
 have H0 := H.only0 hO0
 have HO0 := Lib.hid hO0
 have HC0 := Lib.hid hc0
 have HL0 := Lib.hid hl0
 clear hF hrng hO0 hc0 hl0
 go_enter Tryz.func102, Tryz.ntmps102
 go_wp2_with fail
 generalize w.alloc (.cells #[.pointer (some ⟨b, 0, none⟩)] 92) = w0 at *
 refine HF.out.mono ?_
 intro e w1 hp
 unfold FormPost at hp
 cases hf : Cnf.form xs with
 | none =>
  rw [hf] at hp
  obtain ⟨rfl, O1⟩ := hp
  have hR : Rup.formR C.n xs = none := by
   unfold Rup.formR Cnf.right
   rw [hf]
   simp
  have HR := Lib.hid hR
  clear hf hR
  go_wp2_with fail
  go_ret2
  unfold RupFormPost
  rw [HR.out]
  exact ⟨rfl, HO0.out.same O1⟩
 | some f =>
  rw [hf] at hp
  obtain ⟨vf, rfl, R1, N1, O1⟩ := hp
  have hR := Rup.formR_some (n := C.n) hf
  have hrf := form_range HRg.out hf
  have hIf := Ints.of_own R1 hrf
  have hc1 : w1.cell? ⟨w.heap.size, 0, none⟩ = some (.pointer (some ⟨b, 0, none⟩)) := by
   rw [World.cell?_of_block (w := w0) (O1.block _ HL0.out (fun h => h))]; exact HC0.out
  have hpred : PredI w1 138 #[.pointer (some ⟨w.heap.size, 0, none⟩)] (fun x => !Cnf.okAt C.n x) f := fun x hx W hW =>
   (rup_form1_any ((H0.only0 O1).only0 hW) hn w.heap.size (by rw [World.cell?_of_block (w := w1) (hW.block _ (Nat.lt_of_lt_of_le HL0.out O1.size) (fun h => h))]; exact hc1) x (hrf x hx)).mono fun _ _ ⟨he, hw⟩ => ⟨he, by rw [hw]; exact Only.refl _ _⟩
  have HP := Lib.hid hpred
  have HR := Lib.hid hR
  clear hf hR hpred hc1 hrf
  obtain ⟨af, cf, rfl, _, _⟩ := hIf.shape
  cases hany : f.any (fun x => !Cnf.okAt C.n x)
  ·have HA := Lib.hid hany
   clear hany
   go_wp2_with fail
   refine (ContainsFunc_int hIf 138 #[.pointer (some ⟨w.heap.size, 0, none⟩)] _ HEg.out HP.out false HA.out).mono ?_
   rintro e w2 ⟨rfl, O2⟩
   go_wp2_with fail
   go_ret2
   unfold RupFormPost
   rw [HR.out, HA.out]
   refine ⟨_, rfl, own_only R1 O2 (fun _ _ h => h), fun k hk => ?_, (HO0.out.same O1).same O2⟩
   have := N1 k hk
   have := HO0.out.size
   omega
  ·have HA := Lib.hid hany
   clear hany
   go_wp2_with fail
   refine (ContainsFunc_int hIf 138 #[.pointer (some ⟨w.heap.size, 0, none⟩)] _ HEg.out HP.out true HA.out).mono ?_
   rintro e w2 ⟨rfl, O2⟩
   go_wp2_with fail
   go_ret2
   unfold RupFormPost
   rw [HR.out, HA.out]
   exact ⟨rfl, (HO0.out.same O1).same O2⟩
end
end Go.Proofs.YtjedgdamommgeaaGreat

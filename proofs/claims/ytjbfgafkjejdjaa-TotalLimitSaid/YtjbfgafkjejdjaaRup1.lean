/- The walks of package rup, first part: place, is, so, put, look. -/
import Derived.Test.YtjbfgafkjejdjaaRupFn
namespace Go.Proofs.Ytjbfgafkjejdjaa
open Go.RowKit

structure RupV where
  vc : Value
  vg : Value
  vo : Value
  vv : Value
  vs : Value
  us : List Value
  os : List Value

structure ChkAt (w : World) (g : Tag) (b : Nat) (V : RupV) (C : Rup.Chk) : Prop where
  blk : w.heap[b]? = some (.cells #[.int .i64 C.n, V.vc, V.vg, V.vo, V.vv, V.vs] 103 (0, 0))
  tb : g b = (1, 0)
  c : Row w g (2, 0) 22 V.vc V.us
  ci : AllInts w V.us C.cls
  ct : ∀ i, i < C.cls.length → Tagged g (7, 0) (V.us.getD i nilS) (C.cls.getD i [])
  gn : Row w g (3, 0) 4 V.vg (C.gone.map Value.bool)
  o : Row w g (4, 0) 22 V.vo V.os
  ol : V.os.length = 2 * C.n
  oi : ∀ p, p < 2 * C.n → Row w g (8, p) 3 (V.os.getD p nilS) ((C.of p).map cI)
  v : Row w g (5, 0) 3 V.vv ((Rup.valL C.n C.set).map cI)
  s : Row w g (6, 0) 3 V.vs (C.set.map cI)
  fresh : Fresh w g

def RupTo (w : World) (g : Tag) (b : Nat) (C : Rup.Chk) (w' : World) : Prop := ∃ g' V', ChkAt w' g' b V' C ∧ Agree w g g' ∧ Only (Mine g) w w'

/-- what is set may have changed, and nothing else -/
abbrev T156 (t : Nat) : Prop := t = 1 ∨ t = 5 ∨ t = 6
def RupS (w : World) (g : Tag) (b : Nat) (V : RupV) (C : Rup.Chk) (w' : World) : Prop := ∃ g' vs', ChkAt w' g' b { V with vs := vs' } C ∧ Agree w g g' ∧ Only (fun k => T156 (g k).1) w w'

section
variable {w : World} {g : Tag} {b : Nat} {V : RupV} {C : Rup.Chk}

theorem ChkAt.only (H : ChkAt w g b V C) {F : Nat → Prop} {w' : World} (ho : Only F w w') (hF : ∀ k, (g k).1 ≠ 0 → ¬ F k) : ChkAt w' g b V C :=
  ⟨only_block H.blk ho (hF b (by rw [H.tb]; simp)), H.tb, H.c.only ho (fun k hk => hF k (by rw [hk]; simp)), H.ci.keepT H.ct ho (fun k hk => hF k (by rw [hk]; simp)), H.ct, H.gn.only ho (fun k hk => hF k (by rw [hk]; simp)),
   H.o.only ho (fun k hk => hF k (by rw [hk]; simp)), H.ol, fun p hp => (H.oi p hp).only ho (fun k hk => hF k (by rw [hk]; simp)), H.v.only ho (fun k hk => hF k (by rw [hk]; simp)), H.s.only ho (fun k hk => hF k (by rw [hk]; simp)), H.fresh.more ho.size⟩

theorem ChkAt.only0 (H : ChkAt w g b V C) {w' : World} (ho : Only (fun _ => False) w w') : ChkAt w' g b V C := H.only ho (fun _ _ f => f)

theorem RupTo.refl (H : ChkAt w g b V C) : RupTo w g b C w := ⟨g, V, H, Agree.refl _ _, Only.refl _ _⟩

theorem RupTo.trans {g1 : Tag} {w1 w2 : World} {C2 : Rup.Chk} (ha : Agree w g g1) (ho : Only (Mine g) w w1) (h2 : RupTo w1 g1 b C2 w2) : RupTo w g b C2 w2 := by
  obtain ⟨g2, V2, H2, A2, O2⟩ := h2
  exact ⟨g2, V2, H2, ha.trans A2 ho.size, ho.mine ha O2⟩

theorem RupS.refl (H : ChkAt w g b V C) : RupS w g b V C w := ⟨g, V.vs, H, Agree.refl _ _, Only.refl _ _⟩

theorem RupS.trans {g1 : Tag} {w1 w2 : World} {vs1 : Value} {C2 : Rup.Chk} (ha : Agree w g g1) (ho : Only (fun k => T156 (g k).1) w w1) (h2 : RupS w1 g1 b { V with vs := vs1 } C2 w2) : RupS w g b V C2 w2 := by
  obtain ⟨g2, vs2, H2, A2, O2⟩ := h2
  exact ⟨g2, vs2, H2, ha.trans A2 ho.size, ho.tags ha O2⟩

theorem RupS.to {w' : World} {C2 : Rup.Chk} (h : RupS w g b V C2 w') : RupTo w g b C2 w' := by
  obtain ⟨g2, vs2, H2, A2, O2⟩ := h
  exact ⟨g2, _, H2, A2, O2.mono fun k hk => by unfold Mine; rcases hk with h | h | h <;> omega⟩

theorem ChkAt.f0 (H : ChkAt w g b V C) : w.cell? ⟨b, 0, none⟩ = some (.int .i64 C.n) := by rw [cell_block H.blk]; rfl
theorem ChkAt.f1 (H : ChkAt w g b V C) : w.cell? ⟨b, 1, none⟩ = some V.vc := by rw [cell_block H.blk]; rfl
theorem ChkAt.f2 (H : ChkAt w g b V C) : w.cell? ⟨b, 2, none⟩ = some V.vg := by rw [cell_block H.blk]; rfl
theorem ChkAt.f3 (H : ChkAt w g b V C) : w.cell? ⟨b, 3, none⟩ = some V.vo := by rw [cell_block H.blk]; rfl
theorem ChkAt.f4 (H : ChkAt w g b V C) : w.cell? ⟨b, 4, none⟩ = some V.vv := by rw [cell_block H.blk]; rfl
theorem ChkAt.f5 (H : ChkAt w g b V C) : w.cell? ⟨b, 5, none⟩ = some V.vs := by rw [cell_block H.blk]; rfl
theorem ChkAt.free (H : ChkAt w g b V C) (i : Nat) : w.frozen? ⟨b, i, none⟩ = false := free_block H.blk i

theorem rup_place_any (x : Int) (n : Nat) (hn : n ≤ 65536) (hx : x ≠ 0 ∧ x.natAbs ≤ n) (p : Int) (hp : p = (Rup.place x : Int)) : Calls Try.prog 100 #[.int .i64 x] w fun e w' => e = .returned (.int .i64 p) ∧ w = w' := by
  subst hp
  obtain ⟨h0, h1⟩ := hx
  by_cases hneg : x < 0
  · have e1 : (Rup.place x : Int) = -2 * x - 1 := by unfold Rup.place; rw [if_pos hneg]; omega
    rw [e1]
    have b1 : -65536 ≤ x := by omega
    clear e1 h1 h0
    go_enter Try.func100, Try.ntmps100
    go_wp2
    go_ret
    exact ⟨rfl, rfl⟩
  · have e1 : (Rup.place x : Int) = 2 * x - 2 := by unfold Rup.place; rw [if_neg hneg]; omega
    rw [e1]
    have b1 : x ≤ 65536 := by omega
    have b2 : 0 < x := by omega
    clear e1 h1 h0 hneg
    go_enter Try.func100, Try.ntmps100
    go_wp2
    go_ret
    exact ⟨rfl, rfl⟩

theorem rup_so_any (H : ChkAt w g b V C) (o : C.Ok) (x : Int) (hx : x ≠ 0 ∧ x.natAbs ≤ C.n) (r : Int) (hr : Cnf.value C.set x = r) :
    Calls Try.prog 120 #[.pointer (some ⟨b, 0, none⟩), .int .i64 x] w fun e w' => e = .returned (.int .i64 r) ∧ w = w' := by
  have hn := o.n
  have hl := Rup.valL_lit C.n C.set hx.1 hx.2
  have hlen := Rup.valL_len C.n C.set
  obtain ⟨gv, cap, hvv, hc1, hc2, -, -⟩ := H.v.pos (by simp [hlen]; omega)
  have q0 := H.f4
  have hrow := H.v
  rw [hvv] at q0 hrow
  have q1 := hrow.cellM (f := cI) 0 (i := x.natAbs - 1) (by rw [hlen]; omega)
  have hrng : -1 ≤ (Rup.valL C.n C.set).getD (x.natAbs - 1) 0 ∧ (Rup.valL C.n C.set).getD (x.natAbs - 1) 0 ≤ 1 := by
    rw [Rup.valL_get _ _ (by omega)]
    have := Cnf.value_range C.set (((x.natAbs - 1 : Nat) : Int) + 1)
    omega
  simp only [List.length_map, hlen] at q0
  clear hrow hvv hlen hc1 hc2
  rw [hr] at hl
  generalize (Rup.valL C.n C.set).getD (x.natAbs - 1) 0 = z at *
  obtain ⟨hz1, hz2⟩ := hrng
  obtain ⟨h0, h1⟩ := hx
  clear H hr
  by_cases hneg : x < 0
  · rw [if_pos hneg] at hl
    have e1 : x.natAbs - 1 = (-x).toNat - 1 := by omega
    rw [e1] at q1
    subst hl
    have b1 : -x - 1 < (C.n : Int) := by omega
    have b2 : -65536 ≤ x := by omega
    have b3 : 0 ≤ -x - 1 := by omega
    clear e1 h1 h0 o
    generalize C.n = n at *
    go_enter Try.func120, Try.ntmps120
    go_wp2
    go_ret
    exact ⟨rfl, rfl⟩
  · rw [if_neg hneg] at hl
    obtain ⟨m, rfl⟩ : ∃ m : Nat, x = ((m : Int) + 1) := ⟨x.natAbs - 1, by omega⟩
    have e1 : (((m : Int) + 1)).natAbs - 1 = m := by omega
    rw [e1] at q1
    subst hl
    have b1 : m < C.n := by omega
    have b2 : m < 65536 := by omega
    clear e1 h1 h0 hneg o
    generalize C.n = n at *
    have e2 : IntKind.i64.wrap (m : Int) = m := IntWalk.i64_in _ (by omega)
    go_enter Try.func120, Try.ntmps120
    go_wp2
    go_ret
    exact ⟨rfl, rfl⟩

theorem rup_put_old (H : ChkAt w g b V C) (o : C.Ok) (x : Int) (hx : x ≠ 0 ∧ x.natAbs ≤ C.n) (r : Int) (hr : Cnf.value C.set x = r) (h0 : r ≠ 0) (z : Bool) (hz : decide (0 < r) = z) :
    Calls Try.prog 106 #[.pointer (some ⟨b, 0, none⟩), .int .i64 x] w fun e w' => e = .returned (.bool z) ∧ w = w' := by
  have hc := rup_so_any H o x hx r hr
  have HC := Lib.hid hc
  have hn : (r != 0) = true := bne_iff_ne.2 h0
  clear hc h0 hr H hx o
  go_enter Try.func106, Try.ntmps106
  go_wp2_with fail
  refine HC.out.mono ?_
  rintro e w' ⟨rfl, rfl⟩
  go_wp2_with fail
  go_ret
  exact ⟨rfl, rfl⟩

/-- what is known of an atom was written, and what is set grew -/
theorem ChkAt.pushed (H : ChkAt w g b V C) {w1 w2 : World} {S' : List Int} {vs' : Value} (hv1 : Row w1 g (5, 0) 3 V.vv ((Rup.valL C.n S').map cI)) (o1 : Only (fun k => g k = (5, 0)) w w1)
    (hs2 : Row w2 (Tag.put g w1.heap.size w2.heap.size (6, 0)) (6, 0) 3 vs' (S'.map cI)) (o2 : Only (fun k => g k = (6, 0)) w1 w2) : RupS w g b V { C with set := S' } (w2.setCell ⟨b, 5, none⟩ vs') := by
  have ag : Agree w1 g (Tag.put g w1.heap.size w2.heap.size (6, 0)) := Agree.put g _ (Nat.le_refl _)
  have gb : g b ≠ (6, 0) := by rw [H.tb]; simp
  have lb := lt_block H.blk
  have lb1 : b < w1.heap.size := Nat.lt_of_lt_of_le lb o1.size
  have gb2 : Tag.put g w1.heap.size w2.heap.size (6, 0) b = (1, 0) := (ag b lb1).trans H.tb
  have k1 : ∀ {t : Nat × Nat} {e : TypeId} {v : Value} {xs : List Value}, Row w g t e v xs → t ≠ (5, 0) → t ≠ (6, 0) → t ≠ (1, 0) → Row (w2.setCell ⟨b, 5, none⟩ vs') (Tag.put g w1.heap.size w2.heap.size (6, 0)) t e v xs := by
    intro t e v xs hr h5 h6 h1
    refine Row.far ((hr.only o1 fun k hk hF => h5 (hk.symm.trans hF)).keep o2 (fun k hk hF => h6 (hk.symm.trans hF)) ag) ?_ _
    rw [gb2]; exact fun e => h1 e.symm
  refine ⟨Tag.put g w1.heap.size w2.heap.size (6, 0), vs', ⟨?_, gb2, k1 H.c (by simp) (by simp) (by simp), ?_, ?_, k1 H.gn (by simp) (by simp) (by simp), k1 H.o (by simp) (by simp) (by simp), H.ol, fun p hp => k1 (H.oi p hp) (by simp) (by simp) (by simp), ?_, ?_, ?_⟩, ?_, ?_⟩
  · have h1 := only_block H.blk o1 (by rw [H.tb]; simp)
    have h2 := only_block h1 o2 gb
    rw [set_block h2]; rfl
  · have h1 := H.ci.keepT H.ct o1 (fun k hk hF => by rw [hk] at hF; simp at hF)
    have h2 := h1.keepT H.ct o2 (fun k hk hF => by rw [hk] at hF; simp at hF)
    refine h2.keepT (F := fun k => k = b) H.ct (Only.setCell (Only.refl (fun k => k = b) w2) (p := ⟨b, 5, none⟩) (.inl rfl) _) (fun k hk hF => by rw [hF, H.tb] at hk; simp at hk)
  · exact fun i hi => (H.ct i hi).agree (H.ci.2 i hi) (fun k hk => ag k (Nat.lt_of_lt_of_le hk o1.size))
  · exact Row.far (hv1.keep o2 (fun k hk hF => by rw [hk] at hF; simp at hF) ag) (by rw [gb2]; simp) _
  · exact Row.far hs2 (by rw [gb2]; simp) _
  · refine Fresh.more (Fresh.put (w := w1) (6, 0) (H.fresh.more o1.size) o2.size) (by simp [World.setCell])
  · exact fun k hk => ag k (Nat.lt_of_lt_of_le hk o1.size)
  · refine Only.setCell ?_ (.inl (by rw [H.tb]; simp [T156])) _
    exact (o1.mono fun k hk => by rw [hk]; simp [T156]).same (o2.mono fun k hk => by rw [hk]; simp [T156])

set_option maxHeartbeats 1600000 in
theorem rup_put_new (H : ChkAt w g b V C) (o : C.Ok) (x : Int) (hx : x ≠ 0 ∧ x.natAbs ≤ C.n) (hv : Cnf.value C.set x = 0) :
    Calls Try.prog 106 #[.pointer (some ⟨b, 0, none⟩), .int .i64 x] w fun e w' => e = .returned (.bool true) ∧ RupS w g b V { C with set := C.set ++ [x] } w' := by
  have hc := rup_so_any H o x hx 0 hv
  have HC := Lib.hid hc
  have hn := o.n
  have hlen := Rup.valL_len C.n C.set
  have hvL := Rup.valL_put C.n C.set hx.1 hx.2 hv
  have HVL := Lib.hid hvL
  clear hvL hv hc
  obtain ⟨gv, cap, hvv, hc1, hc2, htv, hltv⟩ := H.v.pos (by simp [hlen]; omega)
  obtain ⟨ao, cs, hvs, hs1, hs2⟩ := H.s.shape
  have q4 := H.f4
  have q5 := H.f5
  have hrow := H.v
  have hrs := H.s
  rw [hvv] at q4 hrow
  rw [hvs] at q5 hrs
  simp only [List.length_map, hlen] at q4 hrow
  simp only [List.length_map] at q5 hrs hs1
  have hne : gv ≠ b := by intro e; rw [e, H.tb] at htv; simp at htv
  obtain ⟨h0, h1⟩ := hx
  have hSl := o.set.len
  have hg6 : g gv ≠ (6, 0) := by rw [htv]; simp
  have HG6 := Lib.hid hg6
  clear hg6
  by_cases hneg : x < 0
  · have b1 : -65536 ≤ x := by omega
    have b2 : -x ≤ (C.n : Int) := by omega
    have q1 := hrow.cellM (f := cI) 0 (i := (-x).toNat - 1) (by rw [hlen]; omega)
    have f1 := hrow.free ((-x).toNat - 1)
    have hst := (hrow.store ((-x).toNat - 1) (cI 1)).store ((-x).toNat - 1) (cI (-1))
    have hst' : Row ((w.setCell ⟨gv, (-x).toNat - 1, none⟩ (cI 1)).setCell ⟨gv, (-x).toNat - 1, none⟩ (cI (-1))) g (5, 0) 3 V.vv ((Rup.valL C.n (C.set ++ [x])).map cI) := by
      rw [HVL.out, hvv, if_pos hneg, show x.natAbs - 1 = (-x).toNat - 1 by omega, List.map_set]
      simpa [hlen] using hst
    have HST := Lib.hid hst'
    have em : max x (-x) = -x := by omega
    generalize (Rup.valL C.n C.set).getD ((-x).toNat - 1) 0 = z at *
    clear h0 h1 hlen hc1 hst hst' HVL
    go_enter Try.func106, Try.ntmps106
    go_wp2_with fail
    refine HC.out.mono ?_
    rintro e w' ⟨rfl, rfl⟩
    go_wp2_with (at_builtin; go_must (refine Row.app (u := .int .i64 x) slInt rfl (.tmp 37) (.tmp 39) rfl rfl rfl ?hc rfl (by exact Row.alloc (Row.far (Row.far hrs HG6.out _) HG6.out _) _) (by simp; omega) (by decide) ?hK))
    case hc => exact cell_newE _ _ _ _ (by simp [World.setCell])
    case hK =>
      intro v' w' r1 r2
      obtain ⟨gs', cap', rfl, -, -, -, -⟩ := r1.pos (by simp)
      simp only [List.length_append, List.length_map, List.length_cons, List.length_nil, Nat.zero_add] at r1
      have o1 : Only (fun k => g k = (5, 0)) w (((w.setCell ⟨gv, (-x).toNat - 1, none⟩ (cI 1)).setCell ⟨gv, (-x).toNat - 1, none⟩ (cI (-1))).alloc (Obj.cells #[.int .i64 x] 3)) :=
        (((Only.refl _ w).setCell (.inl htv) _).setCell (.inl htv) _).alloc _
      have hfin := H.pushed (S' := C.set ++ [x]) (HST.out.alloc _) o1 (by simpa using r1) r2
      have HF := Lib.hid hfin
      have hb5 := only_block (only_block H.blk o1 (by rw [H.tb]; simp)) r2 (by rw [H.tb]; simp)
      have hcb : w'.cell? ⟨b, 5, none⟩ = some V.vs := by rw [cell_block hb5]; rfl
      have hfb := free_block hb5 5
      clear r1 r2 hfin hb5 o1 f1 q1 q4 q5 em
      go_wp2_with fail
      go_ret
      exact ⟨rfl, HF.out⟩
  · have b0 : 0 < x := by omega
    have b1 : x ≤ 65536 := by omega
    have b2 : x ≤ (C.n : Int) := by omega
    have q1 := hrow.cellM (f := cI) 0 (i := x.toNat - 1) (by rw [hlen]; omega)
    have f1 := hrow.free (x.toNat - 1)
    have hst := hrow.store (x.toNat - 1) (cI 1)
    have hst' : Row (w.setCell ⟨gv, x.toNat - 1, none⟩ (cI 1)) g (5, 0) 3 V.vv ((Rup.valL C.n (C.set ++ [x])).map cI) := by
      rw [HVL.out, hvv, if_neg hneg, show x.natAbs - 1 = x.toNat - 1 by omega, List.map_set]
      simpa [hlen] using hst
    have HST := Lib.hid hst'
    have em : max x (-x) = x := by omega
    have d1 : decide (x < 0) = false := decide_eq_false hneg
    generalize (Rup.valL C.n C.set).getD (x.toNat - 1) 0 = z at *
    clear hneg h0 h1 hlen hc1 hst hst' HVL
    go_enter Try.func106, Try.ntmps106
    go_wp2_with fail
    refine HC.out.mono ?_
    rintro e w' ⟨rfl, rfl⟩
    go_wp2_with (at_builtin; go_must (refine Row.app (u := .int .i64 x) slInt rfl (.tmp 37) (.tmp 39) rfl rfl rfl ?hc2 rfl (by exact Row.alloc (Row.far hrs HG6.out _) _) (by simp; omega) (by decide) ?hK2))
    case hc2 => exact cell_newE _ _ _ _ (by simp [World.setCell])
    case hK2 =>
      intro v' w' r1 r2
      obtain ⟨gs', cap', rfl, -, -, -, -⟩ := r1.pos (by simp)
      simp only [List.length_append, List.length_map, List.length_cons, List.length_nil, Nat.zero_add] at r1
      have o1 : Only (fun k => g k = (5, 0)) w ((w.setCell ⟨gv, x.toNat - 1, none⟩ (cI 1)).alloc (Obj.cells #[.int .i64 x] 3)) :=
        ((Only.refl _ w).setCell (.inl htv) _).alloc _
      have hfin := H.pushed (S' := C.set ++ [x]) (HST.out.alloc _) o1 (by simpa using r1) r2
      have HF := Lib.hid hfin
      have hb5 := only_block (only_block H.blk o1 (by rw [H.tb]; simp)) r2 (by rw [H.tb]; simp)
      have hcb : w'.cell? ⟨b, 5, none⟩ = some V.vs := by rw [cell_block hb5]; rfl
      have hfb := free_block hb5 5
      clear r1 r2 hfin hb5 o1 f1 q1 q4 q5 em
      go_wp2_with fail
      go_ret
      exact ⟨rfl, HF.out⟩

theorem Rup.Chk.Ok.snoc (o : C.Ok) {x : Int} (hx : x ≠ 0 ∧ x.natAbs ≤ C.n) (hv : Cnf.value C.set x = 0) : ({ C with set := C.set ++ [x] } : Rup.Chk).Ok :=
  ⟨o.n, o.len, o.cls, o.set.snoc hx hv, o.few, o.of_⟩

/-- look at a clause: what the loop knows -/
def LookTo (S c : List Int) (k : Nat) (op : Int) : Prop := Cnf.fol S c 0 0 = Cnf.fol S (c.drop k) op (if op = 0 then 0 else 1)

theorem fol_two (S : List Int) : ∀ (c : List Int) (op : Int) (n : Nat), 2 ≤ n → (Cnf.fol S c op n).2 = 0
  | [], op, n, h => by unfold Cnf.fol Cnf.folEnd; rw [if_neg (by omega), if_neg (by omega)]
  | x :: r, op, n, h => by
    unfold Cnf.fol
    split
    · rfl
    · split
      · exact fol_two S r x (n + 1) (by omega)
      · exact fol_two S r op n h

set_option maxHeartbeats 1600000 in
theorem rup_look_any (H : ChkAt w g b V C) (o : C.Ok) (k : Nat) (hk : k < C.cls.length) (kI : Int) (hkI : kI = k) :
    Calls Try.prog 107 #[.pointer (some ⟨b, 0, none⟩), .int .i64 kI] w fun e w' => e = .returned (.bool (C.lookF C.set k).2) ∧ RupS w g b V { C with set := (C.lookF C.set k).1 } w' ∧ ({ C with set := (C.lookF C.set k).1 } : Rup.Chk).Ok := by
  subst hkI
  have hlen := o.len
  have hfew := o.few
  have hul := H.ci.1
  obtain ⟨gg, capg, hvg, hg1, hg2, htg, hltg⟩ := H.gn.pos (by simp; omega)
  obtain ⟨gc, capc, hvc, hc1, hc2, htc, hltc⟩ := H.c.pos (by omega)
  have q2 := H.f2
  have q1 := H.f1
  have hrg := H.gn
  have hrc := H.c
  rw [hvg] at q2 hrg
  rw [hvc] at q1 hrc
  have qg := hrg.cellM (f := Value.bool) false (i := k) (by omega)
  have qc := hrc.cell nilS (i := k) (by omega)
  have hci := H.ci.2 k hk
  simp only [List.length_map] at q2
  clear hrg hrc
  cases hgk : C.gone.getD k false
  · rw [hgk] at qg
    have hlk : C.lookF C.set k = if (Cnf.fol C.set (C.cls.getD k []) 0 0).2 = -1 then (C.set, false) else if (Cnf.fol C.set (C.cls.getD k []) 0 0).2 = 1 then (C.set ++ [(Cnf.fol C.set (C.cls.getD k []) 0 0).1], true) else (C.set, true) := by
      unfold Rup.Chk.lookF; rw [hgk]; rfl
    have HLK := Lib.hid hlk
    have hcl := o.cls _ (getD_mem' [] hk)
    have HCl := Lib.hid hcl
    generalize hu : V.us.getD k nilS = u at *
    generalize hcc : C.cls.getD k [] = c at *
    clear hlk hcl hu hcc hgk
    obtain ⟨au, cu, rfl, hu1, hu2⟩ := hci.shape
    have kb : k < C.gone.length := by omega
    have kb2 : k < V.us.length := by omega
    clear hlen hul
    go_enter Try.func107, Try.ntmps107
    go_wp2_with fail
    go_loop [5, 23] (fun vo v => ∃ (j : Nat) (op : Int), v = .int .i64 j ∧ vo = .int .i64 op ∧ j ≤ c.length ∧ LookTo C.set c j op ∧ (op ≠ 0 → op.natAbs ≤ C.n ∧ Cnf.value C.set op = 0)) (fun _ v => c.length - (intOf v).toNat)
    case atStart => exact ⟨0, 0, rfl, rfl, Nat.zero_le _, rfl, fun h => absurd rfl h⟩
    case round =>
      obtain ⟨j, op, rfl, rfl, hj, hL, hop⟩ := hrel
      have HOp := Lib.hid hop
      clear hop
      by_cases cj : j < c.length
      · obtain ⟨bu, ou, rfl, _, hcs⟩ := hci.cells _ _ _ rfl (by omega)
        have q := hcs j cj
        have hx := HCl.out.lit _ (getD_mem' 0 cj)
        unfold LookTo at hL
        rw [Cnf.fol_drop C.set cj] at hL
        have HL := Lib.hid hL
        clear hcs hL
        generalize c.getD j 0 = x at *
        rcases Cnf.value_range C.set x with hv | hv | hv
        · by_cases ho : op = 0
          · subst ho
            have HV := Lib.hid hv
            clear hv
            go_wp2_with fail
            refine (rup_so_any H o x hx 0 HV.out).mono ?_
            rintro e w' ⟨rfl, rfl⟩
            go_wp2_with fail
            go_round
            case rel =>
              refine ⟨j + 1, x, by go_num, rfl, by omega, ?_, fun _ => ⟨hx.2, HV.out⟩⟩
              unfold LookTo
              rw [HL.out, HV.out, if_neg hx.1]
              simp
            case measure => simp [intOf]; omega
          · have hne : (op != 0) = true := bne_iff_ne.2 ho
            have HO := Lib.hid ho
            have HV := Lib.hid hv
            clear hv ho
            have hend : C.lookF C.set k = (C.set, true) := by
              have h2 := HL.out
              rw [HV.out, if_neg (by omega), if_pos rfl, if_neg HO.out] at h2
              have h3 := fol_two C.set (c.drop (j + 1)) x (1 + 1) (by omega)
              rw [← h2] at h3
              rw [HLK.out, h3]
              simp
            have HE := Lib.hid hend
            have hfin := RupS.refl H
            have HF := Lib.hid hfin
            clear hend hfin
            go_wp2_with fail
            refine (rup_so_any H o x hx 0 HV.out).mono ?_
            rintro e w' ⟨rfl, rfl⟩
            go_wp2_with fail
            go_ret
            rw [HE.out]
            exact ⟨rfl, HF.out, o⟩
        · have HV := Lib.hid hv
          clear hv
          have hend : C.lookF C.set k = (C.set, true) := by
            have h2 := HL.out
            rw [HV.out, if_pos rfl] at h2
            rw [HLK.out, h2]
            simp
          have HE := Lib.hid hend
          have hfin := RupS.refl H
          have HF := Lib.hid hfin
          clear hend hfin
          go_wp2_with fail
          refine (rup_so_any H o x hx 1 HV.out).mono ?_
          rintro e w' ⟨rfl, rfl⟩
          go_wp2_with fail
          go_ret
          rw [HE.out]
          exact ⟨rfl, HF.out, o⟩
        · have HV := Lib.hid hv
          clear hv
          go_wp2_with fail
          refine (rup_so_any H o x hx (-1) HV.out).mono ?_
          rintro e w' ⟨rfl, rfl⟩
          go_wp2_with fail
          go_round
          case rel =>
            refine ⟨j + 1, op, by go_num, rfl, by omega, ?_, HOp.out⟩
            unfold LookTo
            rw [HL.out, HV.out]
            simp
          case measure => simp [intOf]; omega
      · have hj' : j = c.length := by omega
        have hL2 : Cnf.fol C.set c 0 0 = Cnf.folEnd op (if op = 0 then 0 else 1) := by
          unfold LookTo at hL
          rw [hL, hj', List.drop_length]
          rfl
        by_cases ho : op = 0
        · subst ho
          have hend : C.lookF C.set k = (C.set, false) := by
            rw [HLK.out, hL2]
            simp [Cnf.folEnd]
          have HE := Lib.hid hend
          have hfin := RupS.refl H
          have HF := Lib.hid hfin
          clear hend hfin hL hL2
          go_wp2_with fail
          go_ret
          rw [HE.out]
          exact ⟨rfl, HF.out, o⟩
        · have hend : C.lookF C.set k = (C.set ++ [op], true) := by
            rw [HLK.out, hL2]
            simp [Cnf.folEnd, ho]
          have HE := Lib.hid hend
          have hne : (op != 0) = true := bne_iff_ne.2 ho
          have hop := HOp.out ho
          have hok := o.snoc ⟨ho, hop.1⟩ hop.2
          have hput := rup_put_new H o op ⟨ho, hop.1⟩ hop.2
          have HP := Lib.hid hput
          clear hend hL hL2 hop ho hput
          go_wp2_with fail
          refine HP.out.mono ?_
          rintro e w' ⟨rfl, hto⟩
          go_wp2_with fail
          go_ret
          rw [HE.out]
          exact ⟨rfl, hto, hok⟩
  · rw [hgk] at qg
    have hlk : C.lookF C.set k = (C.set, true) := by unfold Rup.Chk.lookF; rw [hgk]; rfl
    rw [hlk]
    have hfin := RupS.refl H
    have HF := Lib.hid hfin
    have kb : k < C.gone.length := by omega
    clear hfin hgk hlk qc hci hlen hul
    go_enter Try.func107, Try.ntmps107
    go_wp2_with fail
    go_ret
    exact ⟨rfl, HF.out, o⟩
end
end Go.Proofs.Ytjbfgafkjejdjaa

/- A trail of package prop in memory. (Printed by gen_prop1.py.) -/
import Derived.Test.YtjbfgafkjejdjaaRowO
import Derived.Test.YtjbfgafkjejdjaaPropFn
namespace Go.Proofs.Ytjbfgafkjejdjaa
open Go.RowKit

abbrev cN (k : Nat) : Value := .int .i64 (k : Int)

namespace Tr
def cell3 (x : Int × Int × Int) : List Value := [cI x.1, cI x.2.1, cI x.2.2]
def cell2 (x : Nat × Nat) : List Value := [cN x.1, cN x.2]
def atomCells (n : Nat) (ents : List (Int × Nat × Int)) : List Value := (List.range n).flatMap fun i => cell3 (atomOf ents (i + 1))
def levCells (l : List (Nat × Nat)) : List Value := l.flatMap cell2
end Tr
open Tr

theorem slPAtom : SlT Try.prog 88 96 3 24 := SlT.mk' (z := .agg #[.int .i64 0, .int .i64 0, .int .i64 0]) Try.underlying88 (by kernel_rfl) rfl (by decide)
theorem slLevel : SlT Try.prog 89 93 2 16 := SlT.mk' (z := .agg #[.int .i64 0, .int .i64 0]) Try.underlying89 (by kernel_rfl) rfl (by decide)

structure TrV where
  va : Value
  vc : Value
  vg : Value
  vw : Value
  vl : Value
  vL : Value
  vs : Value
  vk : Value
  us : List Value
  ws : List Value

structure TrAt (w : World) (g : Tag) (b : Nat) (V : TrV) (T : Trail) : Prop where
  blk : w.heap[b]? = some (.cells #[V.va, V.vc, V.vg, V.vw, V.vl, V.vL, cN T.next, V.vs, V.vk] 91 (0, 0))
  tb : g b = (31, 0)
  a : RowZ w g (32, 0) 96 3 V.va T.n (atomCells T.n T.ents)
  c : Row w g (33, 0) 22 V.vc V.us
  ul : V.us.length = T.cls.length
  ci : ∀ i, i < T.cls.length → Row w g (34, i) 3 (V.us.getD i nilS) ((T.cls.getD i []).map cI)
  gn : Row w g (35, 0) 4 V.vg (T.gone.map Value.bool)
  wr : Row w g (36, 0) 22 V.vw V.ws
  wl : V.ws.length = 2 * T.n
  wi : ∀ p, p < 2 * T.n → Row w g (37, p) 3 (V.ws.getD p nilS) ((T.watch.getD p []).map cN)
  l : Row w g (38, 0) 3 V.vl (T.lits.map cI)
  L : RowZ w g (39, 0) 93 2 V.vL T.levels.length (levCells T.levels)
  s : RowO w g (40, 0) 3 V.vs (T.short.map cN)
  k : Row w g (41, 0) 3 V.vk (T.weak.map cN)
  fresh : Fresh w g

/-- what a function leaves -/
def TrTo (w : World) (g : Tag) (b : Nat) (T : Trail) (w' : World) : Prop := ∃ g' V', TrAt w' g' b V' T ∧ Agree w g g' ∧ Only (Mine g) w w'

section
variable {w w' : World} {g g' : Tag} {b : Nat} {V : TrV} {T : Trail}

theorem TrAt.only (H : TrAt w g b V T) {F : Nat → Prop} (ho : Only F w w') (hF : ∀ k, (g k).1 ≠ 0 → ¬ F k) : TrAt w' g b V T := by
  have hk : ∀ (t : Nat × Nat), t.1 ≠ 0 → ∀ k, g k = t → ¬ F k := fun t ht k hk => hF k (by rw [hk]; exact ht)
  exact ⟨only_block H.blk ho (hF b (by rw [H.tb]; decide)), H.tb, H.a.only ho (hk _ (by decide)), H.c.only ho (hk _ (by decide)), H.ul, fun i hi => (H.ci i hi).only ho (hk _ (by simp)), H.gn.only ho (hk _ (by decide)), H.wr.only ho (hk _ (by decide)), H.wl,
    fun p hp => (H.wi p hp).only ho (hk _ (by simp)), H.l.only ho (hk _ (by decide)), H.L.only ho (hk _ (by decide)), H.s.only ho (hk _ (by decide)), H.k.only ho (hk _ (by decide)), H.fresh.more ho.size⟩
theorem TrAt.only0 (H : TrAt w g b V T) (ho : Only (fun _ => False) w w') : TrAt w' g b V T := H.only ho (fun _ _ f => f)
theorem TrAt.drew (H : TrAt w g b V T) : TrAt w.drew g b V T := H.only0 ((Only.refl _ w).drew)
theorem TrAt.drewN (H : TrAt w g b V T) (n : Nat) : TrAt (w.drewN n) g b V T := H.only0 ((Only.refl _ w).drewN n)
theorem TrAt.alloc (H : TrAt w g b V T) (o : Obj) : TrAt (w.alloc o) g b V T := H.only0 ((Only.refl _ w).alloc o)
theorem TrTo.refl (H : TrAt w g b V T) : TrTo w g b T w := ⟨g, V, H, Agree.refl _ _, Only.refl _ _⟩
theorem TrTo.trans {g1 : Tag} {w1 w2 : World} {T2 : Trail} (ha : Agree w g g1) (ho : Only (Mine g) w w1) (h2 : TrTo w1 g1 b T2 w2) : TrTo w g b T2 w2 := by
  obtain ⟨g2, V2, H2, A2, O2⟩ := h2
  exact ⟨g2, V2, H2, ha.trans A2 ho.size, ho.mine ha O2⟩
theorem TrTo.pre {w1 w2 : World} {T2 : Trail} (ho : Only (fun _ => False) w w1) (h2 : TrTo w1 g b T2 w2) : TrTo w g b T2 w2 := TrTo.trans (Agree.refl _ _) (ho.mono fun _ f => f.elim) h2

theorem TrAt.f0 (H : TrAt w g b V T) : w.cell? ⟨b, 0, none⟩ = some (V.va) := by rw [cell_block H.blk]; rfl
theorem TrAt.f1 (H : TrAt w g b V T) : w.cell? ⟨b, 1, none⟩ = some (V.vc) := by rw [cell_block H.blk]; rfl
theorem TrAt.f2 (H : TrAt w g b V T) : w.cell? ⟨b, 2, none⟩ = some (V.vg) := by rw [cell_block H.blk]; rfl
theorem TrAt.f3 (H : TrAt w g b V T) : w.cell? ⟨b, 3, none⟩ = some (V.vw) := by rw [cell_block H.blk]; rfl
theorem TrAt.f4 (H : TrAt w g b V T) : w.cell? ⟨b, 4, none⟩ = some (V.vl) := by rw [cell_block H.blk]; rfl
theorem TrAt.f5 (H : TrAt w g b V T) : w.cell? ⟨b, 5, none⟩ = some (V.vL) := by rw [cell_block H.blk]; rfl
theorem TrAt.f6 (H : TrAt w g b V T) : w.cell? ⟨b, 6, none⟩ = some (cN T.next) := by rw [cell_block H.blk]; rfl
theorem TrAt.f7 (H : TrAt w g b V T) : w.cell? ⟨b, 7, none⟩ = some (V.vs) := by rw [cell_block H.blk]; rfl
theorem TrAt.f8 (H : TrAt w g b V T) : w.cell? ⟨b, 8, none⟩ = some (V.vk) := by rw [cell_block H.blk]; rfl
theorem TrAt.free (H : TrAt w g b V T) (i : Nat) : w.frozen? ⟨b, i, none⟩ = false := free_block H.blk i

/-- the atoms and the list set -/
theorem TrAt.setL (H : TrAt w g b V T) {w5 : World} {g5 : Tag} {ents : List (Int × Nat × Int)} {v : Value} (ag : Agree w g g5) (fr : Fresh w5 g5) (o5 : Only (fun k => g k = (32, 0) ∨ g k = (38, 0)) w w5) (ha : RowZ w5 g5 (32, 0) 96 3 V.va T.n (atomCells T.n ents)) (hl : Row w5 g5 (38, 0) 3 v ((ents.map (·.1)).map cI)) :
    TrAt (w5.setCell ⟨b, 4, none⟩ v) g5 b { V with vl := v } { T with ents := ents } := by
  have hk : ∀ (t : Nat × Nat), (¬ (t = (32, 0) ∨ t = (38, 0))) → ∀ k, g k = t → ¬ (g k = (32, 0) ∨ g k = (38, 0)) := fun t ht k hk => by rw [hk]; exact ht
  have tb5 : g5 b = (31, 0) := (ag b (lt_block H.blk)).trans H.tb
  have hb : ∀ (t : Nat × Nat), (31, 0) ≠ t → g5 b ≠ t := fun t ht e => ht (tb5.symm.trans e)
  exact ⟨by rw [set_block (only_block H.blk o5 (hk (31, 0) (by simp) b H.tb))]; rfl, tb5, ha.far (hb _ (by simp)) _, (H.c.keep o5 (hk _ (by simp)) ag).far (hb _ (by simp)) _, H.ul, fun i hi => ((H.ci i hi).keep o5 (hk _ (by simp)) ag).far (hb _ (by simp)) _, (H.gn.keep o5 (hk _ (by simp)) ag).far (hb _ (by simp)) _, (H.wr.keep o5 (hk _ (by simp)) ag).far (hb _ (by simp)) _, H.wl, fun i hi => ((H.wi i hi).keep o5 (hk _ (by simp)) ag).far (hb _ (by simp)) _, hl.far (hb _ (by simp)) _, (H.L.keep o5 (hk _ (by simp)) ag).far (hb _ (by simp)) _, (H.s.keep o5 (hk _ (by simp)) ag).far (hb _ (by simp)) _, (H.k.keep o5 (hk _ (by simp)) ag).far (hb _ (by simp)) _, fr.more (by simp [World.setCell])⟩
/-- the levels set -/
theorem TrAt.setV (H : TrAt w g b V T) {w5 : World} {g5 : Tag} {ls : List (Nat × Nat)} {v : Value} (ag : Agree w g g5) (fr : Fresh w5 g5) (o5 : Only (fun k => g k = (39, 0)) w w5) (hl : RowZ w5 g5 (39, 0) 93 2 v ls.length (levCells ls)) :
    TrAt (w5.setCell ⟨b, 5, none⟩ v) g5 b { V with vL := v } { T with levels := ls } := by
  have hk : ∀ (t : Nat × Nat), (¬ (t = (39, 0))) → ∀ k, g k = t → ¬ (g k = (39, 0)) := fun t ht k hk => by rw [hk]; exact ht
  have tb5 : g5 b = (31, 0) := (ag b (lt_block H.blk)).trans H.tb
  have hb : ∀ (t : Nat × Nat), (31, 0) ≠ t → g5 b ≠ t := fun t ht e => ht (tb5.symm.trans e)
  exact ⟨by rw [set_block (only_block H.blk o5 (hk (31, 0) (by simp) b H.tb))]; rfl, tb5, (H.a.keep o5 (hk _ (by simp)) ag).far (hb _ (by simp)) _, (H.c.keep o5 (hk _ (by simp)) ag).far (hb _ (by simp)) _, H.ul, fun i hi => ((H.ci i hi).keep o5 (hk _ (by simp)) ag).far (hb _ (by simp)) _, (H.gn.keep o5 (hk _ (by simp)) ag).far (hb _ (by simp)) _, (H.wr.keep o5 (hk _ (by simp)) ag).far (hb _ (by simp)) _, H.wl, fun i hi => ((H.wi i hi).keep o5 (hk _ (by simp)) ag).far (hb _ (by simp)) _, (H.l.keep o5 (hk _ (by simp)) ag).far (hb _ (by simp)) _, hl.far (hb _ (by simp)) _, (H.s.keep o5 (hk _ (by simp)) ag).far (hb _ (by simp)) _, (H.k.keep o5 (hk _ (by simp)) ag).far (hb _ (by simp)) _, fr.more (by simp [World.setCell])⟩
/-- what is to be looked at set -/
theorem TrAt.setS (H : TrAt w g b V T) {w5 : World} {g5 : Tag} {ss : List Nat} {v : Value} (ag : Agree w g g5) (fr : Fresh w5 g5) (o5 : Only (fun k => g k = (40, 0)) w w5) (hl : RowO w5 g5 (40, 0) 3 v (ss.map cN)) :
    TrAt (w5.setCell ⟨b, 7, none⟩ v) g5 b { V with vs := v } { T with short := ss } := by
  have hk : ∀ (t : Nat × Nat), (¬ (t = (40, 0))) → ∀ k, g k = t → ¬ (g k = (40, 0)) := fun t ht k hk => by rw [hk]; exact ht
  have tb5 : g5 b = (31, 0) := (ag b (lt_block H.blk)).trans H.tb
  have hb : ∀ (t : Nat × Nat), (31, 0) ≠ t → g5 b ≠ t := fun t ht e => ht (tb5.symm.trans e)
  exact ⟨by rw [set_block (only_block H.blk o5 (hk (31, 0) (by simp) b H.tb))]; rfl, tb5, (H.a.keep o5 (hk _ (by simp)) ag).far (hb _ (by simp)) _, (H.c.keep o5 (hk _ (by simp)) ag).far (hb _ (by simp)) _, H.ul, fun i hi => ((H.ci i hi).keep o5 (hk _ (by simp)) ag).far (hb _ (by simp)) _, (H.gn.keep o5 (hk _ (by simp)) ag).far (hb _ (by simp)) _, (H.wr.keep o5 (hk _ (by simp)) ag).far (hb _ (by simp)) _, H.wl, fun i hi => ((H.wi i hi).keep o5 (hk _ (by simp)) ag).far (hb _ (by simp)) _, (H.l.keep o5 (hk _ (by simp)) ag).far (hb _ (by simp)) _, (H.L.keep o5 (hk _ (by simp)) ag).far (hb _ (by simp)) _, hl.far (hb _ (by simp)) _, (H.k.keep o5 (hk _ (by simp)) ag).far (hb _ (by simp)) _, fr.more (by simp [World.setCell])⟩
/-- the weak set -/
theorem TrAt.setK (H : TrAt w g b V T) {w5 : World} {g5 : Tag} {ss : List Nat} {v : Value} (ag : Agree w g g5) (fr : Fresh w5 g5) (o5 : Only (fun k => g k = (41, 0)) w w5) (hl : Row w5 g5 (41, 0) 3 v (ss.map cN)) :
    TrAt (w5.setCell ⟨b, 8, none⟩ v) g5 b { V with vk := v } { T with weak := ss } := by
  have hk : ∀ (t : Nat × Nat), (¬ (t = (41, 0))) → ∀ k, g k = t → ¬ (g k = (41, 0)) := fun t ht k hk => by rw [hk]; exact ht
  have tb5 : g5 b = (31, 0) := (ag b (lt_block H.blk)).trans H.tb
  have hb : ∀ (t : Nat × Nat), (31, 0) ≠ t → g5 b ≠ t := fun t ht e => ht (tb5.symm.trans e)
  exact ⟨by rw [set_block (only_block H.blk o5 (hk (31, 0) (by simp) b H.tb))]; rfl, tb5, (H.a.keep o5 (hk _ (by simp)) ag).far (hb _ (by simp)) _, (H.c.keep o5 (hk _ (by simp)) ag).far (hb _ (by simp)) _, H.ul, fun i hi => ((H.ci i hi).keep o5 (hk _ (by simp)) ag).far (hb _ (by simp)) _, (H.gn.keep o5 (hk _ (by simp)) ag).far (hb _ (by simp)) _, (H.wr.keep o5 (hk _ (by simp)) ag).far (hb _ (by simp)) _, H.wl, fun i hi => ((H.wi i hi).keep o5 (hk _ (by simp)) ag).far (hb _ (by simp)) _, (H.l.keep o5 (hk _ (by simp)) ag).far (hb _ (by simp)) _, (H.L.keep o5 (hk _ (by simp)) ag).far (hb _ (by simp)) _, (H.s.keep o5 (hk _ (by simp)) ag).far (hb _ (by simp)) _, hl.far (hb _ (by simp)) _, fr.more (by simp [World.setCell])⟩
/-- what is gone set -/
theorem TrAt.setG (H : TrAt w g b V T) {w5 : World} {g5 : Tag} {gs : List Bool} {v : Value} (ag : Agree w g g5) (fr : Fresh w5 g5) (o5 : Only (fun k => g k = (35, 0)) w w5) (hl : Row w5 g5 (35, 0) 4 v (gs.map Value.bool)) :
    TrAt (w5.setCell ⟨b, 2, none⟩ v) g5 b { V with vg := v } { T with gone := gs } := by
  have hk : ∀ (t : Nat × Nat), (¬ (t = (35, 0))) → ∀ k, g k = t → ¬ (g k = (35, 0)) := fun t ht k hk => by rw [hk]; exact ht
  have tb5 : g5 b = (31, 0) := (ag b (lt_block H.blk)).trans H.tb
  have hb : ∀ (t : Nat × Nat), (31, 0) ≠ t → g5 b ≠ t := fun t ht e => ht (tb5.symm.trans e)
  exact ⟨by rw [set_block (only_block H.blk o5 (hk (31, 0) (by simp) b H.tb))]; rfl, tb5, (H.a.keep o5 (hk _ (by simp)) ag).far (hb _ (by simp)) _, (H.c.keep o5 (hk _ (by simp)) ag).far (hb _ (by simp)) _, H.ul, fun i hi => ((H.ci i hi).keep o5 (hk _ (by simp)) ag).far (hb _ (by simp)) _, hl.far (hb _ (by simp)) _, (H.wr.keep o5 (hk _ (by simp)) ag).far (hb _ (by simp)) _, H.wl, fun i hi => ((H.wi i hi).keep o5 (hk _ (by simp)) ag).far (hb _ (by simp)) _, (H.l.keep o5 (hk _ (by simp)) ag).far (hb _ (by simp)) _, (H.L.keep o5 (hk _ (by simp)) ag).far (hb _ (by simp)) _, (H.s.keep o5 (hk _ (by simp)) ag).far (hb _ (by simp)) _, (H.k.keep o5 (hk _ (by simp)) ag).far (hb _ (by simp)) _, fr.more (by simp [World.setCell])⟩
/-- the next set -/
theorem TrAt.setN (H : TrAt w g b V T) {w5 : World} {g5 : Tag} {m : Nat} (ag : Agree w g g5) (fr : Fresh w5 g5) (o5 : Only (fun k => g k = (30, 0)) w w5)  :
    TrAt (w5.setCell ⟨b, 6, none⟩ (cN m)) g5 b V { T with next := m } := by
  have hk : ∀ (t : Nat × Nat), (¬ (t = (30, 0))) → ∀ k, g k = t → ¬ (g k = (30, 0)) := fun t ht k hk => by rw [hk]; exact ht
  have tb5 : g5 b = (31, 0) := (ag b (lt_block H.blk)).trans H.tb
  have hb : ∀ (t : Nat × Nat), (31, 0) ≠ t → g5 b ≠ t := fun t ht e => ht (tb5.symm.trans e)
  exact ⟨by rw [set_block (only_block H.blk o5 (hk (31, 0) (by simp) b H.tb))]; rfl, tb5, (H.a.keep o5 (hk _ (by simp)) ag).far (hb _ (by simp)) _, (H.c.keep o5 (hk _ (by simp)) ag).far (hb _ (by simp)) _, H.ul, fun i hi => ((H.ci i hi).keep o5 (hk _ (by simp)) ag).far (hb _ (by simp)) _, (H.gn.keep o5 (hk _ (by simp)) ag).far (hb _ (by simp)) _, (H.wr.keep o5 (hk _ (by simp)) ag).far (hb _ (by simp)) _, H.wl, fun i hi => ((H.wi i hi).keep o5 (hk _ (by simp)) ag).far (hb _ (by simp)) _, (H.l.keep o5 (hk _ (by simp)) ag).far (hb _ (by simp)) _, (H.L.keep o5 (hk _ (by simp)) ag).far (hb _ (by simp)) _, (H.s.keep o5 (hk _ (by simp)) ag).far (hb _ (by simp)) _, (H.k.keep o5 (hk _ (by simp)) ag).far (hb _ (by simp)) _, fr.more (by simp [World.setCell])⟩
/-- a clause turned -/
theorem TrAt.setC (H : TrAt w g b V T) {w5 : World} {g5 : Tag} {j : Nat} {c : List Int} (ag : Agree w g g5) (fr : Fresh w5 g5) (o5 : Only (fun k => g k = (34, j)) w w5) (hl : Row w5 g5 (34, j) 3 (V.us.getD j nilS) (c.map cI)) :
    TrAt w5 g5 b V (T.setC j c) := by
  have hk : ∀ (t : Nat × Nat), (¬ (t = (34, j))) → ∀ k, g k = t → ¬ (g k = (34, j)) := fun t ht k hk => by rw [hk]; exact ht
  have tb5 : g5 b = (31, 0) := (ag b (lt_block H.blk)).trans H.tb
  exact ⟨only_block H.blk o5 (hk (31, 0) (by simp) b H.tb), tb5, (H.a.keep o5 (hk _ (by simp)) ag), (H.c.keep o5 (hk _ (by simp)) ag), by rw [H.ul]; simp [Trail.setC], fun i hi => if e : i = j then by subst e; unfold Trail.setC at hi ⊢; rw [getD_set1 (by simpa using hi)]; exact hl else by unfold Trail.setC at hi ⊢; rw [getD_set2 (fun h => e h.symm)]; exact (H.ci i (by simpa using hi)).keep o5 (hk _ (by simp; exact e)) ag, (H.gn.keep o5 (hk _ (by simp)) ag), (H.wr.keep o5 (hk _ (by simp)) ag), H.wl, fun i hi => ((H.wi i hi).keep o5 (hk _ (by simp)) ag), (H.l.keep o5 (hk _ (by simp)) ag), (H.L.keep o5 (hk _ (by simp)) ag), (H.s.keep o5 (hk _ (by simp)) ag), (H.k.keep o5 (hk _ (by simp)) ag), fr⟩
/-- a clause added -/
theorem TrAt.setD (H : TrAt w g b V T) {w5 : World} {g5 : Tag} {c : List Int} {v u : Value} (ag : Agree w g g5) (fr : Fresh w5 g5) (o5 : Only (fun k => g k = (33, 0)) w w5) (hc : Row w5 g5 (33, 0) 22 v (V.us ++ [u])) (hl : Row w5 g5 (34, T.cls.length) 3 u (c.map cI)) :
    TrAt (w5.setCell ⟨b, 1, none⟩ v) g5 b { V with vc := v, us := V.us ++ [u] } { T with cls := T.cls ++ [c] } := by
  have hk : ∀ (t : Nat × Nat), (¬ (t = (33, 0))) → ∀ k, g k = t → ¬ (g k = (33, 0)) := fun t ht k hk => by rw [hk]; exact ht
  have tb5 : g5 b = (31, 0) := (ag b (lt_block H.blk)).trans H.tb
  have hb : ∀ (t : Nat × Nat), (31, 0) ≠ t → g5 b ≠ t := fun t ht e => ht (tb5.symm.trans e)
  exact ⟨by rw [set_block (only_block H.blk o5 (hk (31, 0) (by simp) b H.tb))]; rfl, tb5, (H.a.keep o5 (hk _ (by simp)) ag).far (hb _ (by simp)) _, hc.far (hb _ (by simp)) _, by simp [H.ul], fun i hi => if e : i = T.cls.length then by subst e; rw [getD_app_r _ _ _ (by rw [H.ul]; exact Nat.le_refl _), getD_app_r _ _ _ (Nat.le_refl _), H.ul, Nat.sub_self]; exact hl.far (hb _ (by simp)) _ else by simp at hi; rw [getD_app_l _ _ _ (by rw [H.ul]; omega), getD_app_l _ _ _ (by omega)]; exact ((H.ci i (by omega)).keep o5 (hk _ (by simp)) ag).far (hb _ (by simp)) _, (H.gn.keep o5 (hk _ (by simp)) ag).far (hb _ (by simp)) _, (H.wr.keep o5 (hk _ (by simp)) ag).far (hb _ (by simp)) _, H.wl, fun i hi => ((H.wi i hi).keep o5 (hk _ (by simp)) ag).far (hb _ (by simp)) _, (H.l.keep o5 (hk _ (by simp)) ag).far (hb _ (by simp)) _, (H.L.keep o5 (hk _ (by simp)) ag).far (hb _ (by simp)) _, (H.s.keep o5 (hk _ (by simp)) ag).far (hb _ (by simp)) _, (H.k.keep o5 (hk _ (by simp)) ag).far (hb _ (by simp)) _, fr.more (by simp [World.setCell])⟩
/-- a list of those that watch a literal set -/
theorem TrAt.setW (H : TrAt w g b V T) (hw : T.watch.length = 2 * T.n) {w5 : World} {g5 : Tag} {p bw no co : Nat} {ks : List Nat} {v : Value} (hp : p < 2 * T.n) (hvw : V.vw = .slice (some ⟨bw, 0, none⟩) no co) (ag : Agree w g g5) (fr : Fresh w5 g5) (o5 : Only (fun k => g k = (37, p)) w w5) (hl : Row w5 g5 (37, p) 3 v (ks.map cN)) :
    TrAt (w5.setCell ⟨bw, p, none⟩ v) g5 b { V with ws := V.ws.set p v } (T.setW p ks) := by
  have hk : ∀ (t : Nat × Nat), (¬ (t = (37, p))) → ∀ k, g k = t → ¬ (g k = (37, p)) := fun t ht k hk => by rw [hk]; exact ht
  have hwr := H.wr
  rw [hvw] at hwr
  have htw : g5 bw = (36, 0) := (ag bw (own_lt hwr.own rfl)).trans (hwr.tg bw rfl)
  have tb5 : g5 b = (31, 0) := (ag b (lt_block H.blk)).trans H.tb
  have hb : ∀ (t : Nat × Nat), (36, 0) ≠ t → g5 bw ≠ t := fun t ht e => ht (htw.symm.trans e)
  refine ⟨set_block_other (only_block H.blk o5 (hk (31, 0) (by simp) b H.tb)) (fun e => by rw [e] at tb5; rw [htw] at tb5; simp at tb5) _, tb5, (H.a.keep o5 (hk _ (by simp)) ag).far (hb _ (by simp)) _, (H.c.keep o5 (hk _ (by simp)) ag).far (hb _ (by simp)) _, H.ul, fun i hi => ((H.ci i hi).keep o5 (hk _ (by simp)) ag).far (hb _ (by simp)) _, (H.gn.keep o5 (hk _ (by simp)) ag).far (hb _ (by simp)) _, ?_, by simp [Trail.setW, H.wl], fun q hq => ?_,
    (H.l.keep o5 (hk _ (by simp)) ag).far (hb _ (by simp)) _, (H.L.keep o5 (hk _ (by simp)) ag).far (hb _ (by simp)) _, (H.s.keep o5 (hk _ (by simp)) ag).far (hb _ (by simp)) _, (H.k.keep o5 (hk _ (by simp)) ag).far (hb _ (by simp)) _, fr.more (by simp [World.setCell])⟩
  · have h1 := hwr.keep o5 (hk _ (by simp)) ag
    have h2 := h1.store p v
    show Row _ _ _ _ V.vw _
    rw [hvw]; exact h2
  · simp only [Trail.setW]
    by_cases e : p = q
    · subst e
      rw [getD_set1 (by rw [H.wl]; exact hp), getD_set1 (by rw [hw]; exact hp)]
      exact hl.far (hb _ (by simp)) _
    · rw [getD_set2 e, getD_set2 e]
      exact ((H.wi q hq).keep o5 (hk _ (by simpa using fun h => e h.symm)) ag).far (hb _ (by simp)) _
end
end Go.Proofs.Ytjbfgafkjejdjaa

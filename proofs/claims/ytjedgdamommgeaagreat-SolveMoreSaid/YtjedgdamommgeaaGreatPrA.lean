/- PropFn Prop1 PropFn2 Prop2 Prop3 Prop4 Prop5, in one text. -/
import Derived.Test.YtjedgdamommgeaaGreatUpA
import Derived.Test.YtjedgdamommgeaaGreatAtA
import Derived.Deep.MidRow
import Derived.Lib.MinMax
import Derived.Test.YtjedgdamommgeaaGreatRegs
set_option linter.unusedVariables false
namespace Go.Proofs.YtjedgdamommgeaaGreat
theorem getD_set1 {α : Type} {l : List α} {i : Nat} (h : i < l.length) (x d : α) : (l.set i x).getD i d = x := by
 simp [List.getD_eq_getElem?_getD, h]
theorem getD_set2 {α : Type} {l : List α} {i j : Nat} (h : i ≠ j) (x d : α) : (l.set i x).getD j d = l.getD j d := by
 simp [List.getD_eq_getElem?_getD, h]
namespace Tr
open Cnf
abbrev place := Rup.place
structure Trail where
 n : Nat
 cls : List (List Int)
 gone : List Bool
 watch : List (List Nat)
 ents : List (Int × Nat × Int)
 levels : List (Nat × Nat)
 next : Nat
 short : List Nat
 weak : List Nat
def Trail.lits (T : Trail) : List Int := T.ents.map (·.1)
def Trail.val (T : Trail) (l : Int) : Int := value T.lits l
def Trail.cl (T : Trail) (k : Nat) : List Int := T.cls.getD k []
def Trail.wt (T : Trail) (p : Nat) : List Nat := T.watch.getD p []
def atomOf (ents : List (Int × Nat × Int)) (a : Nat) : Int × Int × Int :=
 match ents.find? (fun x => x.1.natAbs == a) with
 | some x => (if x.1 < 0 then -1 else 1, (x.2.1 : Int), x.2.2)
 | none => (0, 0, 0)
def swapL (c : List Int) (i j : Nat) : List Int := (c.set i (c.getD j 0)).set j (c.getD i 0)
def Trail.put (T : Trail) (l : Int) (r : Int) : Trail := { T with ents := T.ents ++ [(l, T.levels.length, r)] }
def Trail.setC (T : Trail) (k : Nat) (c : List Int) : Trail := { T with cls := T.cls.set k c }
def Trail.setW (T : Trail) (p : Nat) (l : List Nat) : Trail := { T with watch := T.watch.set p l }
def Trail.dec (T : Trail) (l : Int) : Trail := ({ T with levels := T.levels ++ [(T.ents.length, T.next)] } : Trail).put l (-1)
def Trail.backTo (T : Trail) (k : Nat) : Trail :=
 { T with ents := T.ents.take (T.levels.getD k (0, 0)).1, levels := T.levels.take k, next := min T.next (T.levels.getD k (0, 0)).2, short := T.short ++ T.weak, weak := [] }
def Trail.back (T : Trail) (to : Int) : Trail := if to.toNat < T.levels.length then T.backTo to.toNat else T
def addW (W : List (List Nat)) (ls : List Int) (n : Nat) : List (List Nat) := ls.foldl (fun W l => W.set (place l) (W.getD (place l) [] ++ [n])) W
def delW (W : List (List Nat)) (ls : List Int) (n : Nat) : List (List Nat) := ls.foldl (fun W l => W.set (place l) ((W.getD (place l) []).filter (· != n))) W
def Trail.add (T : Trail) (c : List Int) : Trail :=
 { T with cls := T.cls ++ [c], gone := T.gone ++ [false], watch := addW T.watch (c.take 2) T.cls.length, short := T.short ++ [T.cls.length] }
def Trail.there (T : Trail) (k : Int) : Bool := decide (0 ≤ k ∧ k < (T.cls.length : Int)) && !T.gone.getD k.toNat true
def Trail.drop (T : Trail) (k : Int) : Trail :=
 if T.there k then { T with gone := T.gone.set k.toNat true, watch := delW T.watch ((T.cl k.toNat).take 2) k.toNat } else T
def maxI : Int := 9223372036854775807
def Trail.rank (T : Trail) (l : Int) : Int := if T.val l = 1 then maxI else if T.val l = 0 then maxI - 1 else (atomOf T.ents l.natAbs).2.1
def Trail.best (T : Trail) (c : List Int) : List Nat → Nat → Nat
 | [], b => b
 | k :: r, b => T.best c r (if T.rank (c.getD b 0) < T.rank (c.getD k 0) then k else b)
def Trail.bestAt (T : Trail) (c : List Int) (i : Nat) : Nat := T.best c ((List.range c.length).drop (i + 1)) i
def Trail.rew1 (T : Trail) (c : List Int) (i : Nat) : List Int := swapL c i (T.bestAt c i)
def Trail.rewatch (T : Trail) (c : List Int) : List Int := (List.range (min c.length 2)).foldl T.rew1 c
def Trail.first0 (T : Trail) (k : Nat) : Trail :=
 { T with cls := T.cls.set k (T.rewatch (T.cl k)), watch := addW (delW T.watch ((T.cl k).take 2) k) ((T.rewatch (T.cl k)).take 2) k }
def Trail.firstV (T : Trail) (c : List Int) (k : Nat) : Trail × Bool :=
 if c.length = 0 ∨ T.val (c.getD 0 0) < 0 then (T, false)
 else if 1 < c.length ∧ 0 ≤ T.val (c.getD 1 0) then (T, true)
 else if T.val (c.getD 0 0) = 0 then ({ T with weak := T.weak ++ [k] }.put (c.getD 0 0) k, true)
 else ({ T with weak := T.weak ++ [k] }, true)
def Trail.first (T : Trail) (k : Nat) : Trail × Bool := (T.first0 k).firstV (T.rewatch (T.cl k)) k
def Trail.findM (T : Trail) (c : List Int) : List Nat → Option Nat
 | [] => none
 | k :: r => if 0 ≤ T.val (c.getD k 0) then some k else T.findM c r
def Trail.moveTo (T : Trail) (k j : Nat) : Trail :=
 let c := swapL (T.cl k) 1 j
 { T with cls := T.cls.set k c, watch := T.watch.set (place (c.getD 1 0)) (T.wt (place (c.getD 1 0)) ++ [k]) }
def Trail.moves (T : Trail) (k : Nat) : Trail × Bool :=
 match T.findM (T.cl k) ((List.range (T.cl k).length).drop 2) with
 | some j => (T.moveTo k j, true)
 | none => (T, false)
def turn (l : Int) (c : List Int) : List Int := if 1 < c.length ∧ c.getD 0 0 = l then swapL c 0 1 else c
def Trail.visit (T : Trail) (l : Int) : List Nat → List Nat → Trail × Int
 | [], kept => (T.setW (place l) kept, -1)
 | k :: r, kept =>
  let c := turn l (T.cl k)
  let T1 := T.setC k c
  if 1 < c.length ∧ T1.val (c.getD 0 0) ≤ 0 ∧ (T1.moves k).2 then (T1.moves k).1.visit l r kept
  else if T1.val (c.getD 0 0) = -1 then (T1.setW (place l) (kept ++ k :: r), k)
  else if T1.val (c.getD 0 0) = 0 then (T1.put (c.getD 0 0) k).visit l r (kept ++ [k])
  else T1.visit l r (kept ++ [k])
inductive Foll : Trail → Trail → Int → Prop
 | done {T : Trail} : T.short = [] → T.next = T.ents.length → Foll T T (-1)
 | conf {T T' : Trail} {k : Int} : T.next < T.ents.length → T.visit (-(T.lits.getD T.next 0)) (T.wt (place (-(T.lits.getD T.next 0)))) [] = (T', k) → 0 ≤ k → Foll T T' k
 | step {T T' T2 : Trail} {k r : Int} : T.next < T.ents.length → T.visit (-(T.lits.getD T.next 0)) (T.wt (place (-(T.lits.getD T.next 0)))) [] = (T', k) → k < 0 → Foll { T' with next := T'.next + 1 } T2 r → Foll T T2 r
 | skip {T T2 : Trail} {k : Nat} {s : List Nat} {r : Int} : T.next = T.ents.length → T.short = k :: s → T.there k = false → Foll { T with short := s } T2 r → Foll T T2 r
 | bad {T T' : Trail} {k : Nat} {s : List Nat} : T.next = T.ents.length → T.short = k :: s → T.there k = true → T.first k = (T', false) → Foll T T' k
 | look {T T' T2 : Trail} {k : Nat} {s : List Nat} {r : Int} : T.next = T.ents.length → T.short = k :: s → T.there k = true → T.first k = (T', true) → Foll { T' with short := s } T2 r → Foll T T2 r
structure Ok (T : Trail) : Prop where
 n : T.n ≤ 65536
 gl : T.gone.length = T.cls.length
 wl : T.watch.length = 2 * T.n
 cls : ∀ c ∈ T.cls, Up.Good T.n c
 cb : T.cls.length ≤ 2147483648
 good : Up.Good T.n T.lits
 sm : ∀ k ∈ T.short ++ T.weak, k < T.cls.length
 next : T.next ≤ T.ents.length
 lev : (T.levels.map (·.1)).Pairwise (· < ·)
 lin : ∀ x ∈ T.levels, x.1 < T.ents.length
 rea : ∀ x ∈ T.ents, -1 ≤ x.2.2 ∧ x.2.2 < 2147483648 ∧ x.2.1 ≤ T.levels.length
structure Wat (T : Trail) : Prop where
 nd : ∀ p, (T.wt p).Nodup
 snd : ∀ p, ∀ k ∈ T.wt p, k < T.cls.length ∧ T.gone.getD k true = false ∧ ∃ i, i < 2 ∧ i < (T.cl k).length ∧ place ((T.cl k).getD i 0) = p
 cpl : ∀ k, k < T.cls.length → T.gone.getD k true = false → ∀ i, i < 2 → i < (T.cl k).length → k ∈ T.wt (place ((T.cl k).getD i 0))
end Tr
end Go.Proofs.YtjedgdamommgeaaGreat
namespace Go.Proofs.YtjedgdamommgeaaGreat
open Go.RowKit
abbrev cN (k : Nat) : Value := .int .i64 (k : Int)
namespace Tr
def cell3 (x : Int × Int × Int) : List Value := [cI x.1, cI x.2.1, cI x.2.2]
def cell2 (x : Nat × Nat) : List Value := [cN x.1, cN x.2]
def atomCells (n : Nat) (ents : List (Int × Nat × Int)) : List Value := (List.range n).flatMap fun i => cell3 (atomOf ents (i + 1))
def levCells (l : List (Nat × Nat)) : List Value := l.flatMap cell2
end Tr
open Tr
theorem slLevel : SlT Tryz.prog 98 133 2 16 := SlT.mk' (z := .agg #[.int .i64 0, .int .i64 0]) Tryz.underlying98 (by kernel_rfl) rfl (by decide)
structure TrV where
 va : Value
 vc : Value
 vg : Value
 vw : Value
 vl : Value
 vL : Value
 vs : Value
 vk : Value
 us : List Value
 ws : List Value
structure TrAt (w : World) (g : Tag) (b : Nat) (V : TrV) (T : Trail) : Prop where
 blk : w.heap[b]? = some (.cells #[V.va, V.vc, V.vg, V.vw, V.vl, V.vL, cN T.next, V.vs, V.vk] 100 (0, 0))
 tb : g b = (31, 0)
 a : RowZ w g (32, 0) 135 3 V.va T.n (atomCells T.n T.ents)
 c : Row w g (33, 0) 23 V.vc V.us
 ul : V.us.length = T.cls.length
 ci : ∀ i, i < T.cls.length → Row w g (34, i) 3 (V.us.getD i nilS) ((T.cls.getD i []).map cI)
 gn : Row w g (35, 0) 4 V.vg (T.gone.map Value.bool)
 wr : Row w g (36, 0) 23 V.vw V.ws
 wl : V.ws.length = 2 * T.n
 wi : ∀ p, p < 2 * T.n → Row w g (37, p) 3 (V.ws.getD p nilS) ((T.watch.getD p []).map cN)
 l : Row w g (38, 0) 3 V.vl (T.lits.map cI)
 L : RowZ w g (39, 0) 133 2 V.vL T.levels.length (levCells T.levels)
 s : RowO w g (40, 0) 3 V.vs (T.short.map cN)
 k : Row w g (41, 0) 3 V.vk (T.weak.map cN)
 fresh : Fresh w g
def TrTo (w : World) (g : Tag) (b : Nat) (T : Trail) (w' : World) : Prop := ∃ g' V', TrAt w' g' b V' T ∧ Agree w g g' ∧ Only (Mine g) w w'
section
variable {w w' : World} {g g' : Tag} {b : Nat} {V : TrV} {T : Trail}
theorem TrAt.only (H : TrAt w g b V T) {F : Nat → Prop} (ho : Only F w w') (hF : ∀ k, (g k).1 ≠ 0 → ¬ F k) : TrAt w' g b V T := by
 have hk : ∀ (t : Nat × Nat), t.1 ≠ 0 → ∀ k, g k = t → ¬ F k := fun t ht k hk => hF k (by rw [hk]; exact ht)
 exact ⟨only_block H.blk ho (hF b (by rw [H.tb]; decide)), H.tb, H.a.only ho (hk _ (by decide)), H.c.only ho (hk _ (by decide)), H.ul, fun i hi => (H.ci i hi).only ho (hk _ (by simp)), H.gn.only ho (hk _ (by decide)), H.wr.only ho (hk _ (by decide)), H.wl,
  fun p hp => (H.wi p hp).only ho (hk _ (by simp)), H.l.only ho (hk _ (by decide)), H.L.only ho (hk _ (by decide)), H.s.only ho (hk _ (by decide)), H.k.only ho (hk _ (by decide)), H.fresh.more ho.size⟩
theorem TrAt.only0 (H : TrAt w g b V T) (ho : Only (fun _ => False) w w') : TrAt w' g b V T := H.only ho (fun _ _ f => f)
theorem TrAt.drew (H : TrAt w g b V T) : TrAt w.drew g b V T := H.only0 ((Only.refl _ w).drew)
theorem TrAt.drewN (H : TrAt w g b V T) (n : Nat) : TrAt (w.drewN n) g b V T := H.only0 ((Only.refl _ w).drewN n)
theorem TrAt.alloc (H : TrAt w g b V T) (o : Obj) : TrAt (w.alloc o) g b V T := H.only0 ((Only.refl _ w).alloc o)
theorem TrTo.trans {g1 : Tag} {w1 w2 : World} {T2 : Trail} (ha : Agree w g g1) (ho : Only (Mine g) w w1) (h2 : TrTo w1 g1 b T2 w2) : TrTo w g b T2 w2 := by
 obtain ⟨g2, V2, H2, A2, O2⟩ := h2
 exact ⟨g2, V2, H2, ha.trans A2 ho.size, ho.mine ha O2⟩
theorem TrAt.f0 (H : TrAt w g b V T) : w.cell? ⟨b, 0, none⟩ = some (V.va) := by rw [cell_block H.blk]; rfl
theorem TrAt.f1 (H : TrAt w g b V T) : w.cell? ⟨b, 1, none⟩ = some (V.vc) := by rw [cell_block H.blk]; rfl
theorem TrAt.f2 (H : TrAt w g b V T) : w.cell? ⟨b, 2, none⟩ = some (V.vg) := by rw [cell_block H.blk]; rfl
theorem TrAt.f3 (H : TrAt w g b V T) : w.cell? ⟨b, 3, none⟩ = some (V.vw) := by rw [cell_block H.blk]; rfl
theorem TrAt.f4 (H : TrAt w g b V T) : w.cell? ⟨b, 4, none⟩ = some (V.vl) := by rw [cell_block H.blk]; rfl
theorem TrAt.f5 (H : TrAt w g b V T) : w.cell? ⟨b, 5, none⟩ = some (V.vL) := by rw [cell_block H.blk]; rfl
theorem TrAt.f6 (H : TrAt w g b V T) : w.cell? ⟨b, 6, none⟩ = some (cN T.next) := by rw [cell_block H.blk]; rfl
theorem TrAt.f7 (H : TrAt w g b V T) : w.cell? ⟨b, 7, none⟩ = some (V.vs) := by rw [cell_block H.blk]; rfl
theorem TrAt.f8 (H : TrAt w g b V T) : w.cell? ⟨b, 8, none⟩ = some (V.vk) := by rw [cell_block H.blk]; rfl
theorem TrAt.free (H : TrAt w g b V T) (i : Nat) : w.frozen? ⟨b, i, none⟩ = false := free_block H.blk i
theorem TrAt.setL (H : TrAt w g b V T) {w5 : World} {g5 : Tag} {ents : List (Int × Nat × Int)} {v : Value} (ag : Agree w g g5) (fr : Fresh w5 g5) (o5 : Only (fun k => g k = (32, 0) ∨ g k = (38, 0)) w w5) (ha : RowZ w5 g5 (32, 0) 135 3 V.va T.n (atomCells T.n ents)) (hl : Row w5 g5 (38, 0) 3 v ((ents.map (·.1)).map cI)) :
  TrAt (w5.setCell ⟨b, 4, none⟩ v) g5 b { V with vl := v } { T with ents := ents } := by
 have hk : ∀ (t : Nat × Nat), (¬ (t = (32, 0) ∨ t = (38, 0))) → ∀ k, g k = t → ¬ (g k = (32, 0) ∨ g k = (38, 0)) := fun t ht k hk => by rw [hk]; exact ht
 have tb5 : g5 b = (31, 0) := (ag b (lt_block H.blk)).trans H.tb
 have hb : ∀ (t : Nat × Nat), (31, 0) ≠ t → g5 b ≠ t := fun t ht e => ht (tb5.symm.trans e)
 exact ⟨by rw [set_block (only_block H.blk o5 (hk (31, 0) (by simp) b H.tb))]; rfl, tb5, ha.far (hb _ (by simp)) _, (H.c.keep o5 (hk _ (by simp)) ag).far (hb _ (by simp)) _, H.ul, fun i hi => ((H.ci i hi).keep o5 (hk _ (by simp)) ag).far (hb _ (by simp)) _, (H.gn.keep o5 (hk _ (by simp)) ag).far (hb _ (by simp)) _, (H.wr.keep o5 (hk _ (by simp)) ag).far (hb _ (by simp)) _, H.wl, fun i hi => ((H.wi i hi).keep o5 (hk _ (by simp)) ag).far (hb _ (by simp)) _, hl.far (hb _ (by simp)) _, (H.L.keep o5 (hk _ (by simp)) ag).far (hb _ (by simp)) _, (H.s.keep o5 (hk _ (by simp)) ag).far (hb _ (by simp)) _, (H.k.keep o5 (hk _ (by simp)) ag).far (hb _ (by simp)) _, fr.more (by simp [World.setCell])⟩
theorem TrAt.setV (H : TrAt w g b V T) {w5 : World} {g5 : Tag} {ls : List (Nat × Nat)} {v : Value} (ag : Agree w g g5) (fr : Fresh w5 g5) (o5 : Only (fun k => g k = (39, 0)) w w5) (hl : RowZ w5 g5 (39, 0) 133 2 v ls.length (levCells ls)) :
  TrAt (w5.setCell ⟨b, 5, none⟩ v) g5 b { V with vL := v } { T with levels := ls } := by
 have hk : ∀ (t : Nat × Nat), (¬ (t = (39, 0))) → ∀ k, g k = t → ¬ (g k = (39, 0)) := fun t ht k hk => by rw [hk]; exact ht
 have tb5 : g5 b = (31, 0) := (ag b (lt_block H.blk)).trans H.tb
 have hb : ∀ (t : Nat × Nat), (31, 0) ≠ t → g5 b ≠ t := fun t ht e => ht (tb5.symm.trans e)
 exact ⟨by rw [set_block (only_block H.blk o5 (hk (31, 0) (by simp) b H.tb))]; rfl, tb5, (H.a.keep o5 (hk _ (by simp)) ag).far (hb _ (by simp)) _, (H.c.keep o5 (hk _ (by simp)) ag).far (hb _ (by simp)) _, H.ul, fun i hi => ((H.ci i hi).keep o5 (hk _ (by simp)) ag).far (hb _ (by simp)) _, (H.gn.keep o5 (hk _ (by simp)) ag).far (hb _ (by simp)) _, (H.wr.keep o5 (hk _ (by simp)) ag).far (hb _ (by simp)) _, H.wl, fun i hi => ((H.wi i hi).keep o5 (hk _ (by simp)) ag).far (hb _ (by simp)) _, (H.l.keep o5 (hk _ (by simp)) ag).far (hb _ (by simp)) _, hl.far (hb _ (by simp)) _, (H.s.keep o5 (hk _ (by simp)) ag).far (hb _ (by simp)) _, (H.k.keep o5 (hk _ (by simp)) ag).far (hb _ (by simp)) _, fr.more (by simp [World.setCell])⟩
theorem TrAt.setS (H : TrAt w g b V T) {w5 : World} {g5 : Tag} {ss : List Nat} {v : Value} (ag : Agree w g g5) (fr : Fresh w5 g5) (o5 : Only (fun k => g k = (40, 0)) w w5) (hl : RowO w5 g5 (40, 0) 3 v (ss.map cN)) :
  TrAt (w5.setCell ⟨b, 7, none⟩ v) g5 b { V with vs := v } { T with short := ss } := by
 have hk : ∀ (t : Nat × Nat), (¬ (t = (40, 0))) → ∀ k, g k = t → ¬ (g k = (40, 0)) := fun t ht k hk => by rw [hk]; exact ht
 have tb5 : g5 b = (31, 0) := (ag b (lt_block H.blk)).trans H.tb
 have hb : ∀ (t : Nat × Nat), (31, 0) ≠ t → g5 b ≠ t := fun t ht e => ht (tb5.symm.trans e)
 exact ⟨by rw [set_block (only_block H.blk o5 (hk (31, 0) (by simp) b H.tb))]; rfl, tb5, (H.a.keep o5 (hk _ (by simp)) ag).far (hb _ (by simp)) _, (H.c.keep o5 (hk _ (by simp)) ag).far (hb _ (by simp)) _, H.ul, fun i hi => ((H.ci i hi).keep o5 (hk _ (by simp)) ag).far (hb _ (by simp)) _, (H.gn.keep o5 (hk _ (by simp)) ag).far (hb _ (by simp)) _, (H.wr.keep o5 (hk _ (by simp)) ag).far (hb _ (by simp)) _, H.wl, fun i hi => ((H.wi i hi).keep o5 (hk _ (by simp)) ag).far (hb _ (by simp)) _, (H.l.keep o5 (hk _ (by simp)) ag).far (hb _ (by simp)) _, (H.L.keep o5 (hk _ (by simp)) ag).far (hb _ (by simp)) _, hl.far (hb _ (by simp)) _, (H.k.keep o5 (hk _ (by simp)) ag).far (hb _ (by simp)) _, fr.more (by simp [World.setCell])⟩
theorem TrAt.setK (H : TrAt w g b V T) {w5 : World} {g5 : Tag} {ss : List Nat} {v : Value} (ag : Agree w g g5) (fr : Fresh w5 g5) (o5 : Only (fun k => g k = (41, 0)) w w5) (hl : Row w5 g5 (41, 0) 3 v (ss.map cN)) :
  TrAt (w5.setCell ⟨b, 8, none⟩ v) g5 b { V with vk := v } { T with weak := ss } := by
 have hk : ∀ (t : Nat × Nat), (¬ (t = (41, 0))) → ∀ k, g k = t → ¬ (g k = (41, 0)) := fun t ht k hk => by rw [hk]; exact ht
 have tb5 : g5 b = (31, 0) := (ag b (lt_block H.blk)).trans H.tb
 have hb : ∀ (t : Nat × Nat), (31, 0) ≠ t → g5 b ≠ t := fun t ht e => ht (tb5.symm.trans e)
 exact ⟨by rw [set_block (only_block H.blk o5 (hk (31, 0) (by simp) b H.tb))]; rfl, tb5, (H.a.keep o5 (hk _ (by simp)) ag).far (hb _ (by simp)) _, (H.c.keep o5 (hk _ (by simp)) ag).far (hb _ (by simp)) _, H.ul, fun i hi => ((H.ci i hi).keep o5 (hk _ (by simp)) ag).far (hb _ (by simp)) _, (H.gn.keep o5 (hk _ (by simp)) ag).far (hb _ (by simp)) _, (H.wr.keep o5 (hk _ (by simp)) ag).far (hb _ (by simp)) _, H.wl, fun i hi => ((H.wi i hi).keep o5 (hk _ (by simp)) ag).far (hb _ (by simp)) _, (H.l.keep o5 (hk _ (by simp)) ag).far (hb _ (by simp)) _, (H.L.keep o5 (hk _ (by simp)) ag).far (hb _ (by simp)) _, (H.s.keep o5 (hk _ (by simp)) ag).far (hb _ (by simp)) _, hl.far (hb _ (by simp)) _, fr.more (by simp [World.setCell])⟩
theorem TrAt.setG (H : TrAt w g b V T) {w5 : World} {g5 : Tag} {gs : List Bool} {v : Value} (ag : Agree w g g5) (fr : Fresh w5 g5) (o5 : Only (fun k => g k = (35, 0)) w w5) (hl : Row w5 g5 (35, 0) 4 v (gs.map Value.bool)) :
  TrAt (w5.setCell ⟨b, 2, none⟩ v) g5 b { V with vg := v } { T with gone := gs } := by
 have hk : ∀ (t : Nat × Nat), (¬ (t = (35, 0))) → ∀ k, g k = t → ¬ (g k = (35, 0)) := fun t ht k hk => by rw [hk]; exact ht
 have tb5 : g5 b = (31, 0) := (ag b (lt_block H.blk)).trans H.tb
 have hb : ∀ (t : Nat × Nat), (31, 0) ≠ t → g5 b ≠ t := fun t ht e => ht (tb5.symm.trans e)
 exact ⟨by rw [set_block (only_block H.blk o5 (hk (31, 0) (by simp) b H.tb))]; rfl, tb5, (H.a.keep o5 (hk _ (by simp)) ag).far (hb _ (by simp)) _, (H.c.keep o5 (hk _ (by simp)) ag).far (hb _ (by simp)) _, H.ul, fun i hi => ((H.ci i hi).keep o5 (hk _ (by simp)) ag).far (hb _ (by simp)) _, hl.far (hb _ (by simp)) _, (H.wr.keep o5 (hk _ (by simp)) ag).far (hb _ (by simp)) _, H.wl, fun i hi => ((H.wi i hi).keep o5 (hk _ (by simp)) ag).far (hb _ (by simp)) _, (H.l.keep o5 (hk _ (by simp)) ag).far (hb _ (by simp)) _, (H.L.keep o5 (hk _ (by simp)) ag).far (hb _ (by simp)) _, (H.s.keep o5 (hk _ (by simp)) ag).far (hb _ (by simp)) _, (H.k.keep o5 (hk _ (by simp)) ag).far (hb _ (by simp)) _, fr.more (by simp [World.setCell])⟩
theorem TrAt.setN (H : TrAt w g b V T) {w5 : World} {g5 : Tag} {m : Nat} (ag : Agree w g g5) (fr : Fresh w5 g5) (o5 : Only (fun k => g k = (30, 0)) w w5)  :
  TrAt (w5.setCell ⟨b, 6, none⟩ (cN m)) g5 b V { T with next := m } := by
 have hk : ∀ (t : Nat × Nat), (¬ (t = (30, 0))) → ∀ k, g k = t → ¬ (g k = (30, 0)) := fun t ht k hk => by rw [hk]; exact ht
 have tb5 : g5 b = (31, 0) := (ag b (lt_block H.blk)).trans H.tb
 have hb : ∀ (t : Nat × Nat), (31, 0) ≠ t → g5 b ≠ t := fun t ht e => ht (tb5.symm.trans e)
 exact ⟨by rw [set_block (only_block H.blk o5 (hk (31, 0) (by simp) b H.tb))]; rfl, tb5, (H.a.keep o5 (hk _ (by simp)) ag).far (hb _ (by simp)) _, (H.c.keep o5 (hk _ (by simp)) ag).far (hb _ (by simp)) _, H.ul, fun i hi => ((H.ci i hi).keep o5 (hk _ (by simp)) ag).far (hb _ (by simp)) _, (H.gn.keep o5 (hk _ (by simp)) ag).far (hb _ (by simp)) _, (H.wr.keep o5 (hk _ (by simp)) ag).far (hb _ (by simp)) _, H.wl, fun i hi => ((H.wi i hi).keep o5 (hk _ (by simp)) ag).far (hb _ (by simp)) _, (H.l.keep o5 (hk _ (by simp)) ag).far (hb _ (by simp)) _, (H.L.keep o5 (hk _ (by simp)) ag).far (hb _ (by simp)) _, (H.s.keep o5 (hk _ (by simp)) ag).far (hb _ (by simp)) _, (H.k.keep o5 (hk _ (by simp)) ag).far (hb _ (by simp)) _, fr.more (by simp [World.setCell])⟩
theorem TrAt.setC (H : TrAt w g b V T) {w5 : World} {g5 : Tag} {j : Nat} {c : List Int} (ag : Agree w g g5) (fr : Fresh w5 g5) (o5 : Only (fun k => g k = (34, j)) w w5) (hl : Row w5 g5 (34, j) 3 (V.us.getD j nilS) (c.map cI)) :
  TrAt w5 g5 b V (T.setC j c) := by
 have hk : ∀ (t : Nat × Nat), (¬ (t = (34, j))) → ∀ k, g k = t → ¬ (g k = (34, j)) := fun t ht k hk => by rw [hk]; exact ht
 have tb5 : g5 b = (31, 0) := (ag b (lt_block H.blk)).trans H.tb
 exact ⟨only_block H.blk o5 (hk (31, 0) (by simp) b H.tb), tb5, (H.a.keep o5 (hk _ (by simp)) ag), (H.c.keep o5 (hk _ (by simp)) ag), by rw [H.ul]; simp [Trail.setC], fun i hi => if e : i = j then by subst e; unfold Trail.setC at hi ⊢; rw [getD_set1 (by simpa using hi)]; exact hl else by unfold Trail.setC at hi ⊢; rw [getD_set2 (fun h => e h.symm)]; exact (H.ci i (by simpa using hi)).keep o5 (hk _ (by simp; exact e)) ag, (H.gn.keep o5 (hk _ (by simp)) ag), (H.wr.keep o5 (hk _ (by simp)) ag), H.wl, fun i hi => ((H.wi i hi).keep o5 (hk _ (by simp)) ag), (H.l.keep o5 (hk _ (by simp)) ag), (H.L.keep o5 (hk _ (by simp)) ag), (H.s.keep o5 (hk _ (by simp)) ag), (H.k.keep o5 (hk _ (by simp)) ag), fr⟩
theorem TrAt.setD (H : TrAt w g b V T) {w5 : World} {g5 : Tag} {c : List Int} {v u : Value} (ag : Agree w g g5) (fr : Fresh w5 g5) (o5 : Only (fun k => g k = (33, 0)) w w5) (hc : Row w5 g5 (33, 0) 23 v (V.us ++ [u])) (hl : Row w5 g5 (34, T.cls.length) 3 u (c.map cI)) :
  TrAt (w5.setCell ⟨b, 1, none⟩ v) g5 b { V with vc := v, us := V.us ++ [u] } { T with cls := T.cls ++ [c] } := by
 have hk : ∀ (t : Nat × Nat), (¬ (t = (33, 0))) → ∀ k, g k = t → ¬ (g k = (33, 0)) := fun t ht k hk => by rw [hk]; exact ht
 have tb5 : g5 b = (31, 0) := (ag b (lt_block H.blk)).trans H.tb
 have hb : ∀ (t : Nat × Nat), (31, 0) ≠ t → g5 b ≠ t := fun t ht e => ht (tb5.symm.trans e)
 exact ⟨by rw [set_block (only_block H.blk o5 (hk (31, 0) (by simp) b H.tb))]; rfl, tb5, (H.a.keep o5 (hk _ (by simp)) ag).far (hb _ (by simp)) _, hc.far (hb _ (by simp)) _, by simp [H.ul], fun i hi => if e : i = T.cls.length then by subst e; rw [getD_app_r _ _ _ (by rw [H.ul]; exact Nat.le_refl _), getD_app_r _ _ _ (Nat.le_refl _), H.ul, Nat.sub_self]; exact hl.far (hb _ (by simp)) _ else by simp at hi; rw [getD_app_l _ _ _ (by rw [H.ul]; omega), getD_app_l _ _ _ (by omega)]; exact ((H.ci i (by omega)).keep o5 (hk _ (by simp)) ag).far (hb _ (by simp)) _, (H.gn.keep o5 (hk _ (by simp)) ag).far (hb _ (by simp)) _, (H.wr.keep o5 (hk _ (by simp)) ag).far (hb _ (by simp)) _, H.wl, fun i hi => ((H.wi i hi).keep o5 (hk _ (by simp)) ag).far (hb _ (by simp)) _, (H.l.keep o5 (hk _ (by simp)) ag).far (hb _ (by simp)) _, (H.L.keep o5 (hk _ (by simp)) ag).far (hb _ (by simp)) _, (H.s.keep o5 (hk _ (by simp)) ag).far (hb _ (by simp)) _, (H.k.keep o5 (hk _ (by simp)) ag).far (hb _ (by simp)) _, fr.more (by simp [World.setCell])⟩
theorem TrAt.setW (H : TrAt w g b V T) (hw : T.watch.length = 2 * T.n) {w5 : World} {g5 : Tag} {p bw no co : Nat} {ks : List Nat} {v : Value} (hp : p < 2 * T.n) (hvw : V.vw = .slice (some ⟨bw, 0, none⟩) no co) (ag : Agree w g g5) (fr : Fresh w5 g5) (o5 : Only (fun k => g k = (37, p)) w w5) (hl : Row w5 g5 (37, p) 3 v (ks.map cN)) :
  TrAt (w5.setCell ⟨bw, p, none⟩ v) g5 b { V with ws := V.ws.set p v } (T.setW p ks) := by
 have hk : ∀ (t : Nat × Nat), (¬ (t = (37, p))) → ∀ k, g k = t → ¬ (g k = (37, p)) := fun t ht k hk => by rw [hk]; exact ht
 have hwr := H.wr
 rw [hvw] at hwr
 have htw : g5 bw = (36, 0) := (ag bw (own_lt hwr.own rfl)).trans (hwr.tg bw rfl)
 have tb5 : g5 b = (31, 0) := (ag b (lt_block H.blk)).trans H.tb
 have hb : ∀ (t : Nat × Nat), (36, 0) ≠ t → g5 bw ≠ t := fun t ht e => ht (htw.symm.trans e)
 refine ⟨set_block_other (only_block H.blk o5 (hk (31, 0) (by simp) b H.tb)) (fun e => by rw [e] at tb5; rw [htw] at tb5; simp at tb5) _, tb5, (H.a.keep o5 (hk _ (by simp)) ag).far (hb _ (by simp)) _, (H.c.keep o5 (hk _ (by simp)) ag).far (hb _ (by simp)) _, H.ul, fun i hi => ((H.ci i hi).keep o5 (hk _ (by simp)) ag).far (hb _ (by simp)) _, (H.gn.keep o5 (hk _ (by simp)) ag).far (hb _ (by simp)) _, ?_, by simp [Trail.setW, H.wl], fun q hq => ?_,
  (H.l.keep o5 (hk _ (by simp)) ag).far (hb _ (by simp)) _, (H.L.keep o5 (hk _ (by simp)) ag).far (hb _ (by simp)) _, (H.s.keep o5 (hk _ (by simp)) ag).far (hb _ (by simp)) _, (H.k.keep o5 (hk _ (by simp)) ag).far (hb _ (by simp)) _, fr.more (by simp [World.setCell])⟩
 ·have h1 := hwr.keep o5 (hk _ (by simp)) ag
  have h2 := h1.store p v
  show Row _ _ _ _ V.vw _
  rw [hvw]; exact h2
 ·simp only [Trail.setW]
  by_cases e : p = q
  ·subst e
   rw [getD_set1 (by rw [H.wl]; exact hp), getD_set1 (by rw [hw]; exact hp)]
   exact hl.far (hb _ (by simp)) _
  ·rw [getD_set2 e, getD_set2 e]
   exact ((H.wi q hq).keep o5 (hk _ (by simpa using fun h => e h.symm)) ag).far (hb _ (by simp)) _
end
namespace Tr
open Cnf
theorem flat_len {α : Type} (f : Nat → List α) (m : Nat) (h : ∀ i, (f i).length = m) : ∀ n, ((List.range n).flatMap f).length = n * m
 | 0 => by simp
 | n + 1 => by rw [List.range_succ, List.flatMap_append, List.length_append, flat_len f m h n]; simp [h, Nat.add_mul]
theorem flat_get {α : Type} (f : Nat → List α) (m : Nat) (h : ∀ i, (f i).length = m) : ∀ (n i j : Nat), i < n → j < m → ((List.range n).flatMap f)[i * m + j]? = (f i)[j]?
 | 0, i, j, hi, _ => by omega
 | n + 1, i, j, hi, hj => by
  rw [List.range_succ, List.flatMap_append]
  by_cases e : i = n
  ·subst e
   rw [List.getElem?_append_right (by rw [flat_len f m h]; omega), flat_len f m h]
   simp
  ·rw [List.getElem?_append_left (by
    rw [flat_len f m h]
    have : (i + 1) * m ≤ n * m := Nat.mul_le_mul_right _ (by omega)
    rw [Nat.add_mul] at this; omega)]
   exact flat_get f m h n i j (by omega) hj
theorem flat_ext {α : Type} {f : Nat → List α} {m n : Nat} (hm : 0 < m) (h : ∀ i, (f i).length = m) {l : List α} (hl : l.length = n * m) (hg : ∀ i j, i < n → j < m → l[i * m + j]? = (f i)[j]?) : l = (List.range n).flatMap f := by
 apply List.ext_getElem?
 intro q
 by_cases hq : q < n * m
 ·have e : q = q / m * m + q % m := by rw [Nat.mul_comm]; exact (Nat.div_add_mod q m).symm
  have h1 : q / m < n := (Nat.div_lt_iff_lt_mul hm).2 hq
  have h2 : q % m < m := Nat.mod_lt _ hm
  rw [e, hg _ _ h1 h2, flat_get f m h n _ _ h1 h2]
 ·rw [List.getElem?_eq_none (by omega), List.getElem?_eq_none (by rw [flat_len f m h]; omega)]
theorem atomCells_len (n : Nat) (e : List (Int × Nat × Int)) : (atomCells n e).length = n * 3 := flat_len _ 3 (fun _ => rfl) n
theorem atomCells_get {n : Nat} (e : List (Int × Nat × Int)) {i j : Nat} (hi : i < n) (hj : j < 3) : (atomCells n e)[i * 3 + j]? = (cell3 (atomOf e (i + 1)))[j]? := flat_get (fun i => cell3 (atomOf e (i + 1))) 3 (fun _ => rfl) n i j hi hj
theorem atomCells_set {n : Nat} {e e' : List (Int × Nat × Int)} {a : Nat} (ha : a < n) (h : ∀ i, i ≠ a → atomOf e' (i + 1) = atomOf e (i + 1)) {x y z : Int} (hx : atomOf e' (a + 1) = (x, y, z)) :
  (((atomCells n e).set (a * 3) (cI x)).set (a * 3 + 1) (cI y)).set (a * 3 + 2) (cI z) = atomCells n e' := by
 refine flat_ext (m := 3) (f := fun i => cell3 (atomOf e' (i + 1))) (by decide) (fun _ => rfl) (by simp [atomCells_len]) (fun i j hi hj => ?_)
 simp only [List.getElem?_set, List.length_set, atomCells_len]
 by_cases ei : i = a
 ·subst ei
  rw [hx]
  have hb : i * 3 + 2 < n * 3 := by omega
  match j, hj with
  | 0, _ => rw [if_neg (by omega), if_neg (by omega), if_pos (by omega), if_pos (by omega)]; rfl
  | 1, _ => rw [if_neg (by omega), if_pos (by omega), if_pos (by omega)]; rfl
  | 2, _ => rw [if_pos (by omega), if_pos (by omega)]; rfl
 ·rw [if_neg (by omega), if_neg (by omega), if_neg (by omega), atomCells_get e hi hj, h i ei]
def Nod (e : List (Int × Nat × Int)) : Prop := (e.map fun x => x.1.natAbs).Nodup
theorem Nod.of_good {n : Nat} {e : List (Int × Nat × Int)} (h : Up.Good n (e.map (·.1))) : Nod e := by
 have := h.nod
 simpa [Nod, List.map_map, Function.comp_def] using this
theorem atomOf_none {e : List (Int × Nat × Int)} {a : Nat} (h : ∀ x ∈ e, x.1.natAbs ≠ a) : atomOf e a = (0, 0, 0) := by
 unfold atomOf
 rw [List.find?_eq_none.2 (by intro x hx; simpa using h x hx)]
theorem find_mem {e : List (Int × Nat × Int)} (hn : Nod e) {x : Int × Nat × Int} (hx : x ∈ e) : e.find? (fun y => y.1.natAbs == x.1.natAbs) = some x := by
 induction e with
 | nil => cases hx
 | cons y r ih =>
  unfold Nod at hn
  rw [List.map_cons, List.nodup_cons] at hn
  rw [List.find?_cons]
  rcases List.mem_cons.1 hx with e1 | e1
  ·subst e1; simp
  ·have : (y.1.natAbs == x.1.natAbs) = false := by
    rw [beq_eq_false_iff_ne]
    intro e2
    exact hn.1 (List.mem_map.2 ⟨x, e1, e2.symm⟩)
   rw [this]
   exact ih hn.2 e1
theorem atomOf_mem {e : List (Int × Nat × Int)} (hn : Nod e) {x : Int × Nat × Int} (hx : x ∈ e) : atomOf e x.1.natAbs = (if x.1 < 0 then -1 else 1, (x.2.1 : Int), x.2.2) := by
 unfold atomOf
 rw [find_mem hn hx]
theorem atomOf_val {n : Nat} {e : List (Int × Nat × Int)} (h : Up.Good n (e.map (·.1))) {a : Nat} (ha : 0 < a) : (atomOf e a).1 = value (e.map (·.1)) (a : Int) := by
 by_cases hx : ∃ x ∈ e, x.1.natAbs = a
 ·obtain ⟨x, hx, rfl⟩ := hx
  rw [atomOf_mem (Nod.of_good h) hx]
  have hm : x.1 ∈ e.map (·.1) := List.mem_map.2 ⟨x, hx, rfl⟩
  by_cases hs : x.1 < 0
  ·rw [if_pos hs]
   symm
   rw [h.neg]
   rw [show -((x.1.natAbs : Nat) : Int) = x.1 by omega]; exact hm
  ·rw [if_neg hs]
   symm
   rw [h.one]
   rw [show ((x.1.natAbs : Nat) : Int) = x.1 by omega]; exact hm
 ·have h0 : ∀ x ∈ e, x.1.natAbs ≠ a := fun x hx' e' => hx ⟨x, hx', e'⟩
  rw [atomOf_none h0]
  symm
  rw [Up.value_zero]
  constructor
  ·intro hm
   obtain ⟨x, hx', e'⟩ := List.mem_map.1 hm
   exact h0 x hx' (by omega)
  ·intro hm
   obtain ⟨x, hx', e'⟩ := List.mem_map.1 hm
   exact h0 x hx' (by omega)
theorem atomOf_snoc {e : List (Int × Nat × Int)} {x : Int × Nat × Int} {a : Nat} (hx : x.1.natAbs ≠ a) : atomOf (e ++ [x]) a = atomOf e a := by
 unfold atomOf
 have : ([x] : List (Int × Nat × Int)).find? (fun y => y.1.natAbs == a) = none := by simp [hx]
 rw [List.find?_append, this]
 simp
theorem atomOf_new {e : List (Int × Nat × Int)} {x : Int × Nat × Int} (h : ∀ y ∈ e, y.1.natAbs ≠ x.1.natAbs) : atomOf (e ++ [x]) x.1.natAbs = (if x.1 < 0 then -1 else 1, (x.2.1 : Int), x.2.2) := by
 unfold atomOf
 have : e.find? (fun y => y.1.natAbs == x.1.natAbs) = none := List.find?_eq_none.2 (by intro y hy; simpa using h y hy)
 rw [List.find?_append, this]
 simp
theorem atomOf_skip {e r : List (Int × Nat × Int)} {x : Int × Nat × Int} {a : Nat} (hx : x.1.natAbs ≠ a) : atomOf (e ++ x :: r) a = atomOf (e ++ r) a := by
 unfold atomOf
 rw [List.find?_append, List.find?_append, List.find?_cons]
 have : (x.1.natAbs == a) = false := by simpa using hx
 rw [this]
theorem lits_open {n : Nat} {e : List (Int × Nat × Int)} {l : Int} (hl : l ≠ 0) (hv : value (e.map (·.1)) l = 0) : ∀ y ∈ e, y.1.natAbs ≠ l.natAbs := by
 intro y hy e'
 obtain ⟨h1, h2⟩ := Up.value_zero.1 hv
 have : y.1 = l ∨ y.1 = -l := by omega
 rcases this with h | h
 ·exact h1 (List.mem_map.2 ⟨y, hy, h⟩)
 ·exact h2 (List.mem_map.2 ⟨y, hy, h⟩)
theorem levCells_get : ∀ (l : List (Nat × Nat)) (i j : Nat), i < l.length → j < 2 → (levCells l)[i * 2 + j]? = (cell2 (l.getD i (0, 0)))[j]?
 | [], i, j, hi, _ => by simp at hi
 | x :: r, 0, j, _, hj => by
  unfold levCells
  rw [List.flatMap_cons, List.getElem?_append_left (by simp [cell2]; omega)]
  simp
 | x :: r, i + 1, j, hi, hj => by
  have := levCells_get r i j (by simpa using hi) hj
  unfold levCells at *
  rw [List.flatMap_cons, List.getElem?_append_right (by simp [cell2]; omega)]
  rw [show (i + 1) * 2 + j - (cell2 x).length = i * 2 + j by simp [cell2]; omega, this]
  simp
theorem levCells_app (l m : List (Nat × Nat)) : levCells (l ++ m) = levCells l ++ levCells m := by simp [levCells]
theorem levCells_take : ∀ (l : List (Nat × Nat)) (k : Nat), levCells (l.take k) = (levCells l).take (k * 2)
 | [], k => by simp [levCells]
 | x :: r, 0 => by simp [levCells]
 | x :: r, k + 1 => by
  have := levCells_take r k
  unfold levCells at *
  rw [List.take_succ_cons, List.flatMap_cons, List.flatMap_cons, this]
  rw [List.take_append, List.take_of_length_le (l := cell2 x) (by simp only [cell2, List.length_cons, List.length_nil]; omega)]
  congr 1
  rw [show (k + 1) * 2 - (cell2 x).length = k * 2 by simp only [cell2, List.length_cons, List.length_nil]; omega]
end Tr
end Go.Proofs.YtjedgdamommgeaaGreat
namespace Go.Proofs.YtjedgdamommgeaaGreat
open Go.RowKit
open Tr
namespace Tr
def Trail.is (T : Trail) (x : Int) : Bool := decide (x ≠ 0 ∧ x.natAbs ≤ T.n)
def Trail.at (T : Trail) (n : Int) : Int × Int := if 1 ≤ n ∧ T.val n ≠ 0 then (atomOf T.ents n.natAbs).2 else (-1, -1)
theorem Ok.val0 {T : Trail} (o : Ok T) {x : Int} (h : T.is x = false) : T.val x = 0 := by
 unfold Trail.is at h
 have h' := of_decide_eq_false h
 unfold Trail.val
 rw [Up.value_zero]
 constructor
 ·intro hm; exact h' (o.good.lit x hm)
 ·intro hm; have := o.good.lit _ hm; exact h' (by omega)
theorem Ok.atom {T : Trail} (o : Ok T) {a : Nat} (ha : 0 < a) : (atomOf T.ents a).1 = T.val (a : Int) := atomOf_val o.good ha
theorem val_neg {T : Trail} (o : Ok T) (x : Int) : T.val (-x) = - T.val x := by
 unfold Trail.val
 rcases Cnf.value_range T.lits x with h | h | h
 ·rw [h]
  have := Up.value_zero.1 h
  exact Up.value_zero.2 ⟨this.2, by rw [Int.neg_neg]; exact this.1⟩
 ·rw [h, o.good.neg, Int.neg_neg]; exact Up.value_one h
 ·rw [h]; have := Up.value_neg h; rw [o.good.one.2 this]; rfl
theorem lits_len (T : Trail) : T.lits.length = T.ents.length := by simp [Trail.lits]
theorem Ok.len {T : Trail} (o : Ok T) : T.ents.length ≤ T.n := by have := o.good.len; rwa [lits_len] at this
end Tr
section
variable {w : World} {g : Tag} {b : Nat} {V : TrV} {T : Trail}
theorem prop_place_any (x : Int) (n : Nat) (hn : n ≤ 65536) (hx : x ≠ 0 ∧ x.natAbs ≤ n) (p : Int) (hp : p = (place x : Int)) : Calls Tryz.prog 89 #[.int .i64 x] w fun e w' => e = .returned (.int .i64 p) ∧ w = w' := by
 subst hp
 obtain ⟨h0, h1⟩ := hx
 by_cases hneg : x < 0
 ·have e1 : (place x : Int) = -2 * x - 1 := by unfold place Rup.place; rw [if_pos hneg]; omega
  rw [e1]
  have b1 : -65536 ≤ x := by omega
  clear e1 h1 h0
  go_enter Tryz.func89, Tryz.ntmps89
  go_wp2
  go_ret
  exact ⟨rfl, rfl⟩
 ·have e1 : (place x : Int) = 2 * x - 2 := by unfold place Rup.place; rw [if_neg hneg]; omega
  rw [e1]
  have b1 : x ≤ 65536 := by omega
  have b2 : 0 < x := by omega
  clear e1 h1 h0 hneg
  go_enter Tryz.func89, Tryz.ntmps89
  go_wp2
  go_ret
  exact ⟨rfl, rfl⟩
theorem prop_is_any (H : TrAt w g b V T) (hn : T.n ≤ 65536) (x : Int) (hx : InI64 x) (r : Bool) (hr : T.is x = r) :
  Calls Tryz.prog 88 #[.pointer (some ⟨b, 0, none⟩), .int .i64 x] w fun e w' => e = .returned (.bool r) ∧ w = w' := by
 obtain ⟨hx1, hx2⟩ := hx
 have q0 := H.f0
 obtain ⟨aa, ca, hva, _, _⟩ := own_slice H.a.own
 rw [hva] at q0
 have hr' : decide (x ≠ 0 ∧ x.natAbs ≤ T.n) = r := hr
 clear H hva hr
 generalize T.n = n at *
 by_cases h0 : x = 0
 ·subst h0
  have : r = false := by rw [← hr']; simp
  subst this
  clear hr'
  go_enter Tryz.func88, Tryz.ntmps88
  go_wp2
  go_ret
  exact ⟨rfl, rfl⟩
 ·by_cases h1 : x = -9223372036854775808
  ·subst h1
   have : r = false := by rw [← hr']; apply decide_eq_false; omega
   subst this
   clear hr'
   go_enter Tryz.func88, Tryz.ntmps88
   go_wp2
   go_ret
   exact ⟨rfl, rfl⟩
  ·have hd : r = decide (x.natAbs ≤ n) := by
    rw [← hr']; apply decide_eq_decide.2; omega
   subst hd
   have hm : max x (-x) = (x.natAbs : Int) := by omega
   have ew : IntKind.i64.wrap (-x) = -x := IntWalk.i64_in _ (by omega)
   have d0 : (x != 0) = true := by simpa using h0
   have d1 : (x != -9223372036854775808) = true := by simpa using h1
   clear hr' h0 h1
   generalize x.natAbs = m at *
   go_enter Tryz.func88, Tryz.ntmps88
   go_wp2
   go_ret
   exact ⟨rfl, rfl⟩
theorem prop_Value_any (H : TrAt w g b V T) (o : Ok T) (x : Int) (hx : InI64 x) (r : Int) (hr : T.val x = r) :
  Calls Tryz.prog 69 #[.pointer (some ⟨b, 0, none⟩), .int .i64 x] w fun e w' => e = .returned (.int .i64 r) ∧ w = w' := by
 have hn := o.n
 cases his : T.is x
 ·have h0 : r = 0 := by rw [← hr]; exact o.val0 his
  have hI := prop_is_any H hn x hx false his
  have HI := Lib.hid hI
  subst h0
  clear hI hr H
  go_enter Tryz.func69, Tryz.ntmps69
  go_wp2_with fail
  refine HI.out.mono ?_
  rintro e w' ⟨rfl, rfl⟩
  go_wp2_with fail
  go_ret
  exact ⟨rfl, rfl⟩
 ·have hI := prop_is_any H hn x hx true his
  have HI := Lib.hid hI
  have his' : x ≠ 0 ∧ x.natAbs ≤ T.n := of_decide_eq_true his
  obtain ⟨h0, h1⟩ := his'
  obtain ⟨ga, ca, hva, hc1, hc2⟩ := own_some H.a.own (by omega)
  have q0 := H.f0
  have hrow := H.a.own
  rw [hva] at q0 hrow
  have q1 := hrow.cellAt ((x.natAbs - 1) * 3 + 0) (by omega)
  rw [atomCells_get _ (by omega) (by decide)] at q1
  have hat := o.atom (a := x.natAbs) (by omega)
  have hvn := val_neg o x
  rw [show x.natAbs - 1 + 1 = x.natAbs by omega] at q1
  have q2 : w.cell? ⟨ga, (x.natAbs - 1) * 3, none⟩ = some (cI (T.val (x.natAbs : Int))) := by
   rw [← hat]; exact q1
  have hrng : -1 ≤ r ∧ r ≤ 1 := by rw [← hr]; have := Cnf.value_range T.lits x; unfold Trail.val; omega
  obtain ⟨r1, r2⟩ := hrng
  clear q1 hat hrow hva hI his H
  by_cases hneg : x < 0
  ·have e1 : (x.natAbs : Int) = -x := by omega
   rw [e1, hvn, hr] at q2
   obtain ⟨m, rfl⟩ : ∃ m : Nat, x = -((m : Int) + 1) := ⟨x.natAbs - 1, by omega⟩
   have e2 : (-((m : Int) + 1)).natAbs - 1 = m := by omega
   rw [e2] at q2
   have b1 : m < T.n := by omega
   have b2 : m < 65536 := by omega
   have ew : IntKind.i64.wrap (-(-((m : Int) + 1))) = (m : Int) + 1 := by rw [IntWalk.i64_in _ (by omega)]; omega
   have ew2 : IntKind.i64.wrap (-(-r)) = r := by rw [IntWalk.i64_in _ (by omega)]; omega
   have ew3 : IntKind.i64.wrap ((m : Int) + 1 - 1) = m := by rw [IntWalk.i64_in _ (by omega)]; omega
   have d1 : decide (-((m : Int) + 1) < 0) = true := decide_eq_true hneg
   clear e1 e2 hvn hr h1 h0 hx o hneg
   generalize T.n = n at *
   go_enter Tryz.func69, Tryz.ntmps69
   go_wp2_with fail
   refine HI.out.mono ?_
   rintro e w' ⟨rfl, rfl⟩
   go_wp2_with fail
   go_ret
   exact ⟨rfl, rfl⟩
  ·have e1 : (x.natAbs : Int) = x := by omega
   rw [e1, hr] at q2
   obtain ⟨m, rfl⟩ : ∃ m : Nat, x = ((m : Int) + 1) := ⟨x.natAbs - 1, by omega⟩
   have e2 : (((m : Int) + 1)).natAbs - 1 = m := by omega
   rw [e2] at q2
   have b1 : m < T.n := by omega
   have b2 : m < 65536 := by omega
   have ew3 : IntKind.i64.wrap ((m : Int) + 1 - 1) = m := by rw [IntWalk.i64_in _ (by omega)]; omega
   have d1 : decide (((m : Int) + 1) < 0) = false := decide_eq_false hneg
   clear e1 e2 hvn hr h1 h0 hx o hneg
   generalize T.n = n at *
   go_enter Tryz.func69, Tryz.ntmps69
   go_wp2_with fail
   refine HI.out.mono ?_
   rintro e w' ⟨rfl, rfl⟩
   go_wp2_with fail
   go_ret
   exact ⟨rfl, rfl⟩
theorem prop_At_any (H : TrAt w g b V T) (o : Ok T) (x : Int) (hx : InI64 x) (r : Int × Int) (hr : T.at x = r) :
  Calls Tryz.prog 81 #[.pointer (some ⟨b, 0, none⟩), .int .i64 x] w fun e w' => e = .returned (.tuple #[.int .i64 r.1, .int .i64 r.2]) ∧ Only (fun _ => False) w w' := by
 have hn := o.n
 obtain ⟨rl, rr⟩ := r
 dsimp only
 by_cases h1 : 1 ≤ x
 ·obtain ⟨v, hv⟩ : ∃ v, T.val x = v := ⟨_, rfl⟩
  have hV := prop_Value_any H o x hx v hv
  have HV := Lib.hid hV
  clear hV
  by_cases hv0 : v = 0
  ·subst hv0
   have e : T.at x = (-1, -1) := by unfold Trail.at; rw [if_neg (by rw [hv]; simp)]
   rw [e] at hr
   obtain ⟨rfl, rfl⟩ := Prod.mk.inj hr
   have d1 : decide (x < 1) = false := decide_eq_false (by omega)
   clear hr e hv hx H o
   go_enter Tryz.func81, Tryz.ntmps81
   go_wp2_with fail
   refine HV.out.mono ?_
   rintro e w' ⟨rfl, rfl⟩
   go_wp2_with fail
   go_ret2
   exact ⟨rfl, Only.refl _ _⟩
  ·have his : T.is x = true := by
    cases h : T.is x
    ·exact absurd (hv.symm.trans (o.val0 h)) hv0
    ·rfl
   have his' : x ≠ 0 ∧ x.natAbs ≤ T.n := of_decide_eq_true his
   have e : T.at x = (atomOf T.ents x.natAbs).2 := by unfold Trail.at; rw [if_pos ⟨h1, by rw [hv]; exact hv0⟩]
   rw [e] at hr
   obtain ⟨ga, ca, hva, hc1, hc2⟩ := own_some H.a.own (by omega)
   have q0 := H.f0
   have hrow := H.a.own
   rw [hva] at q0 hrow
   have k0 := hrow.cellAt ((x.natAbs - 1) * 3 + 0) (by omega)
   have k1 := hrow.cellAt ((x.natAbs - 1) * 3 + 1) (by omega)
   have k2 := hrow.cellAt ((x.natAbs - 1) * 3 + 2) (by omega)
   rw [atomCells_get _ (by omega) (by decide), show x.natAbs - 1 + 1 = x.natAbs by omega] at k0 k1 k2
   obtain ⟨m, rfl⟩ : ∃ m : Nat, x = ((m : Int) + 1) := ⟨x.natAbs - 1, by omega⟩
   have e2 : (((m : Int) + 1)).natAbs - 1 = m := by omega
   rw [e2] at k0 k1 k2
   have k0' : w.cell? ⟨ga, m * 3, none⟩ = some (cI (atomOf T.ents ((m : Int) + 1).natAbs).1) := k0
   have k1' : w.cell? ⟨ga, m * 3 + 1, none⟩ = some (cI rl) := by rw [k1]; simp [cell3, hr]
   have k2' : w.cell? ⟨ga, m * 3 + 2, none⟩ = some (cI rr) := by rw [k2]; simp [cell3, hr]
   generalize (atomOf T.ents ((m : Int) + 1).natAbs).1 = z at *
   have b1 : m < T.n := by omega
   have b2 : m < 65536 := by omega
   have ew3 : IntKind.i64.wrap ((m : Int) + 1 - 1) = m := by rw [IntWalk.i64_in _ (by omega)]; omega
   have d1 : decide (((m : Int) + 1) < 1) = false := decide_eq_false (by omega)
   have d2 : (v == 0) = false := by simpa using hv0
   clear hr e hv hx H o his his' hrow hva k0 k1 k2 e2 hv0
   generalize T.n = n at *
   go_enter Tryz.func81, Tryz.ntmps81
   go_wp2_with fail
   refine HV.out.mono ?_
   rintro e w' ⟨rfl, rfl⟩
   go_wp2_with fail
   go_quiet (fail)
   go_wp2_with fail
   go_ret2
   refine ⟨rfl, ?_⟩
   repeat (first | exact Only.refl _ _ | apply Only.drewN | apply Only.drew | apply Only.alloc)
 ·have e : T.at x = (-1, -1) := by unfold Trail.at; rw [if_neg (by omega)]
  rw [e] at hr
  obtain ⟨rfl, rfl⟩ := Prod.mk.inj hr
  have d1 : decide (x < 1) = true := decide_eq_true (by omega)
  clear hr e hx H o
  go_enter Tryz.func81, Tryz.ntmps81
  go_wp2_with fail
  go_ret2
  exact ⟨rfl, Only.refl _ _⟩
end
section
variable {w : World} {g : Tag} {b : Nat} {V : TrV} {T : Trail}
theorem prop_there_any (H : TrAt w g b V T) (o : Ok T) (k : Int) (r : Bool) (hr : T.there k = r) :
  Calls Tryz.prog 67 #[.pointer (some ⟨b, 0, none⟩), .int .i64 k] w fun e w' => e = .returned (.bool r) ∧ w = w' := by
 have q1 := H.f1
 obtain ⟨ac, cc, hvc, _, _⟩ := own_slice H.c.own
 rw [hvc, H.ul] at q1
 by_cases h0 : 0 ≤ k
 ·obtain ⟨m, rfl⟩ := Int.eq_ofNat_of_zero_le h0
  by_cases h1 : m < T.cls.length
  ·have hg := H.gn
   have q2 := H.f2
   obtain ⟨gb, cg, hvg, _, _, _, _⟩ := hg.pos (by simp [o.gl]; omega)
   rw [hvg] at hg q2
   have q3 := hg.cellM (f := Value.bool) true (i := m) (by rw [o.gl]; exact h1)
   simp only [List.length_map, o.gl] at q2
   have hr' : T.there (m : Int) = !T.gone.getD m true := by
    unfold Trail.there
    rw [decide_eq_true (by omega)]; simp
   rw [hr'] at hr
   have hcb := o.cb
   generalize T.gone.getD m true = z at *
   generalize T.cls.length = n at *
   clear hr' hg hvg hvc H o
   subst hr
   have d1 : decide (m < n) = true := decide_eq_true h1
   have d2 : decide ((0 : Int) ≤ (m : Int)) = true := decide_eq_true h0
   go_enter Tryz.func67, Tryz.ntmps67
   go_wp2_with fail
   go_ret
   exact ⟨rfl, rfl⟩
  ·have : r = false := by rw [← hr]; unfold Trail.there; rw [decide_eq_false (by omega)]; rfl
   subst this
   generalize T.cls.length = n at *
   clear hr hvc H o
   have d1 : decide (m < n) = false := decide_eq_false h1
   have d2 : decide ((0 : Int) ≤ (m : Int)) = true := decide_eq_true h0
   go_enter Tryz.func67, Tryz.ntmps67
   go_wp2_with fail
   go_ret
   exact ⟨rfl, rfl⟩
 ·have : r = false := by rw [← hr]; unfold Trail.there; rw [decide_eq_false (by omega)]; rfl
  subst this
  clear hr hvc H o q1
  have d2 : decide ((0 : Int) ≤ k) = false := decide_eq_false h0
  go_enter Tryz.func67, Tryz.ntmps67
  go_wp2_with fail
  go_ret
  exact ⟨rfl, rfl⟩
theorem prop_rank_any (H : TrAt w g b V T) (o : Ok T) (x : Int) (hx : x ≠ 0 ∧ x.natAbs ≤ T.n) (r : Int) (hr : T.rank x = r) :
  Calls Tryz.prog 143 #[.pointer (some ⟨b, 0, none⟩), .int .i64 x] w fun e w' => e = .returned (.int .i64 r) ∧ Only (fun _ => False) w w' := by
 have hn := o.n
 have hb : InI64 x := by unfold InI64; omega
 obtain ⟨v, hv⟩ : ∃ v, T.val x = v := ⟨_, rfl⟩
 have hV := prop_Value_any H o x hb v hv
 have HV := Lib.hid hV
 have hvr := Cnf.value_range T.lits x
 have hv' : Cnf.value T.lits x = v := hv
 rw [hv'] at hvr
 unfold Trail.rank at hr
 rw [hv] at hr
 clear hV hv'
 by_cases c1 : v = 1
 ·subst c1
  rw [if_pos rfl] at hr
  subst hr
  clear H o hvr hv
  unfold maxI
  go_enter Tryz.func143, Tryz.ntmps143
  go_wp2_with fail
  refine HV.out.mono ?_
  rintro e w' ⟨rfl, rfl⟩
  go_wp2_with fail
  go_ret
  exact ⟨rfl, Only.refl _ _⟩
 ·by_cases c0 : v = 0
  ·subst c0
   rw [if_neg (by decide), if_pos rfl] at hr
   subst hr
   clear H o hvr hv
   unfold maxI
   go_enter Tryz.func143, Tryz.ntmps143
   go_wp2_with fail
   refine HV.out.mono ?_
   rintro e w' ⟨rfl, rfl⟩
   go_wp2_with fail
   go_ret
   exact ⟨rfl, Only.refl _ _⟩
  ·obtain rfl : v = -1 := by omega
   rw [if_neg (by decide), if_neg (by decide)] at hr
   have hnz : T.val (x.natAbs : Int) ≠ 0 := by
    by_cases hneg : x < 0
    ·rw [show (x.natAbs : Int) = -x by omega, val_neg o, hv]; decide
    ·rw [show (x.natAbs : Int) = x by omega, hv]; decide
   have hat : T.at (x.natAbs : Int) = (atomOf T.ents x.natAbs).2 := by unfold Trail.at; rw [if_pos ⟨by omega, hnz⟩]; simp
   have hA := fun r2 (h2 : (atomOf T.ents x.natAbs).2 = r2) => prop_At_any H o (x.natAbs : Int) (by unfold InI64; omega) r2 (hat.trans h2)
   obtain ⟨r2, hr2⟩ : ∃ r2, (atomOf T.ents x.natAbs).2 = (r, r2) := ⟨(atomOf T.ents x.natAbs).2.2, by rw [← hr]⟩
   have hA' := hA _ hr2
   have HA := Lib.hid hA'
   dsimp only at HA
   have hm : max x (-x) = (x.natAbs : Int) := by omega
   have ew : IntKind.i64.wrap (-x) = -x := IntWalk.i64_in _ (by omega)
   clear H o hvr hv hA hA' hat hnz hr hr2 c1 c0
   generalize x.natAbs = m at *
   go_enter Tryz.func143, Tryz.ntmps143
   go_wp2_with fail
   refine HV.out.mono ?_
   rintro e w' ⟨rfl, rfl⟩
   go_wp2_with fail
   refine HA.out.mono ?_
   rintro e w' ⟨rfl, O1⟩
   go_wp2_with fail
   go_ret
   exact ⟨rfl, O1⟩
end
theorem RowZ.store {w : World} {g : Tag} {t : Nat × Nat} {e : TypeId} {size b n cap : Nat} {xs : List Value} (h : RowZ w g t e size (.slice (some ⟨b, 0, none⟩) n cap) n xs) (i : Nat) (u : Value) :
  RowZ (w.setCell ⟨b, i, none⟩ u) g t e size (.slice (some ⟨b, 0, none⟩) n cap) n (xs.set i u) := ⟨(h.own.stored i u).1, h.tg⟩
namespace Tr
theorem Ok.put {T : Trail} (o : Ok T) {l : Int} (hl : l ≠ 0 ∧ l.natAbs ≤ T.n) (hv : T.val l = 0) {r : Int} (hr : -1 ≤ r ∧ r < 2147483648) : Ok (T.put l r) := by
 have e : (T.put l r).lits = T.lits ++ [l] := by simp [Trail.put, Trail.lits]
 refine ⟨o.n, o.gl, o.wl, o.cls, o.cb, ?_, o.sm, ?_, o.lev, ?_, ?_⟩
 ·rw [e]; exact o.good.snoc hl hv
 ·have := o.next; simp [Trail.put]; omega
 ·intro x hx; have := o.lin x hx; simp [Trail.put]; omega
 ·intro x hx
  simp only [Trail.put, List.mem_append, List.mem_singleton] at hx
  rcases hx with hx | rfl
  ·exact o.rea x hx
  ·exact ⟨hr.1, hr.2, Nat.le_refl _⟩
theorem put_cells {T : Trail} {l : Int} (hl : l ≠ 0 ∧ l.natAbs ≤ T.n) (hv : T.val l = 0) (r : Int) (z : Int) (hz : (if l < 0 then -1 else 1) = z) :
  (((atomCells T.n T.ents).set ((l.natAbs - 1) * 3) (cI z)).set ((l.natAbs - 1) * 3 + 1) (cN T.levels.length)).set ((l.natAbs - 1) * 3 + 2) (cI r) = atomCells T.n (T.put l r).ents := by
 subst hz
 have h0 := lits_open (n := T.n) hl.1 hv
 refine atomCells_set (y := (T.levels.length : Int)) (by omega) (fun i hi => ?_) ?_
 ·exact atomOf_snoc (by simp only; omega)
 ·rw [show l.natAbs - 1 + 1 = l.natAbs by omega]
  exact atomOf_new (x := (l, T.levels.length, r)) h0
end Tr
section
variable {w : World} {g : Tag} {b : Nat} {V : TrV} {T : Trail}
def T3 (n : Nat) : Prop := n = 31 ∨ n = 32 ∨ n = 38
def PutTo (w : World) (g : Tag) (b : Nat) (V : TrV) (T : Trail) (w' : World) : Prop := ∃ g' vl', TrAt w' g' b { V with vl := vl' } T ∧ Agree w g g' ∧ Only (fun k => T3 (g k).1) w w'
theorem PutTo.to {w' : World} (h : PutTo w g b V T w') : TrTo w g b T w' := by
 obtain ⟨g', vl', h1, h2, h3⟩ := h
 exact ⟨g', _, h1, h2, h3.mono fun k hk => by unfold T3 at hk; unfold Mine; omega⟩
set_option maxRecDepth 100000 in
set_option maxHeartbeats 1600000 in
theorem prop_put_any (H : TrAt w g b V T) (hn : T.n ≤ 65536) (hg : Up.Good T.n T.lits) (l : Int) (hl : l ≠ 0 ∧ l.natAbs ≤ T.n) (hv : T.val l = 0) (r : Int) :
  Calls Tryz.prog 109 #[.pointer (some ⟨b, 0, none⟩), .int .i64 l, .int .i64 r] w fun e w' => e = .returned (.tuple #[]) ∧ PutTo w g b V (T.put l r) w' := by
 obtain ⟨ga, ca, hva, hc1, hc2⟩ := own_some H.a.own (by omega)
 have q0 := H.f0
 have hrow := H.a
 rw [hva] at q0 hrow
 obtain ⟨m, hmm⟩ : ∃ m : Nat, m = l.natAbs - 1 := ⟨_, rfl⟩
 have b1 : m < T.n := by omega
 have e0 : (atomCells T.n T.ents)[m * 3 + 0]? = some _ := atomCells_get T.ents (n := T.n) (i := m) (j := 0) (by omega) (by decide)
 have e1 : (atomCells T.n T.ents)[m * 3 + 1]? = some _ := atomCells_get T.ents (n := T.n) (i := m) (j := 1) (by omega) (by decide)
 have e2 : (atomCells T.n T.ents)[m * 3 + 2]? = some _ := atomCells_get T.ents (n := T.n) (i := m) (j := 2) (by omega) (by decide)
 have k0 := (hrow.own.cellAt (m * 3) (by omega)).trans e0
 have k1 := (hrow.own.cellAt (m * 3 + 1) (by omega)).trans e1
 have k2 := (hrow.own.cellAt (m * 3 + 2) (by omega)).trans e2
 have f0 := hrow.own.frozenAt (m * 3)
 have f1 := hrow.own.frozenAt (m * 3 + 1)
 have f2 := hrow.own.frozenAt (m * 3 + 2)
 have q5 := H.f5
 obtain ⟨aL, cL, hvL, _, _⟩ := own_slice H.L.own
 rw [hvL] at q5
 have q4 := H.f4
 obtain ⟨al, cl, hvl, _, _⟩ := H.l.shape
 have hrl := H.l
 rw [hvl] at q4 hrl
 have hll : (T.lits.map cI).length = T.ents.length := by simp [lits_len]
 rw [hll] at q4 hrl
 have hel : T.ents.length ≤ T.n := by have := hg.len; rwa [lits_len] at this
 have hta : g ga = (32, 0) := hrow.tg ga rfl
 have hne : ga ≠ b := fun e => by rw [e, H.tb] at hta; simp at hta
 have lb := lt_block H.blk
 have htb := H.tb
 have fr4 := H.free 4
 have hpc := fun z hz => put_cells hl hv r z hz
 rw [← hmm] at hpc
 have hfin : ∀ wA w5 v' s, Only (fun k => g k = (38, 0)) wA w5 → wA.heap.size = s → Row w5 (Tag.put g s w5.heap.size (38, 0)) (38, 0) 3 v' (T.lits.map cI ++ [.int .i64 l]) → RowZ wA g (32, 0) 135 3 (.slice (some ⟨ga, 0, none⟩) T.n ca) T.n (atomCells T.n (T.put l r).ents) → Only (fun k => g k = (32, 0)) w wA → PutTo w g b V (T.put l r) (w5.setCell ⟨b, 4, none⟩ v') := by
  intro wA w5 v' s o2 hs r2 r1 o1
  subst hs
  have ag : Agree w g (Tag.put g wA.heap.size w5.heap.size (38, 0)) := Agree.put g _ o1.size
  have o5 : Only (fun k => g k = (32, 0) ∨ g k = (38, 0)) w w5 := (o1.mono fun k hk => .inl hk).same (o2.mono fun k hk => .inr hk)
  have ha := r1.keep o2 (fun k hk hF => by rw [hk] at hF; simp at hF) (Agree.put (w := wA) g (lo := wA.heap.size) (hi := w5.heap.size) (38, 0) (Nat.le_refl _))
  have := H.setL (ents := (T.put l r).ents) (v := v') ag (Fresh.put (w := wA) (38, 0) (H.fresh.more o1.size) o2.size) o5 (by rw [hva]; exact ha) (by
   have e : ((T.put l r).ents.map (·.1)).map cI = T.lits.map cI ++ [.int .i64 l] := by simp [Trail.put, Trail.lits]
   rw [e]; exact r2)
  refine ⟨_, v', this, ag, (o5.mono fun k hk => ?_).setCell (.inl ?_) _⟩
  ·unfold T3; rcases hk with hk | hk <;> rw [hk] <;> simp
  ·unfold T3; rw [H.tb]; simp
 have HFin := Lib.hid hfin
 have HPC := Lib.hid hpc
 have HRow := Lib.hid hrow
 have HRl := Lib.hid hrl
 have hOa : ∀ (u0 u1 u2 : Value), Only (fun k => g k = (32, 0)) w (((w.setCell ⟨ga, m * 3, none⟩ u0).setCell ⟨ga, m * 3 + 1, none⟩ u1).setCell ⟨ga, m * 3 + 2, none⟩ u2) := fun u0 u1 u2 =>
  (((Only.refl _ w).setCell (.inl hta) _).setCell (.inl hta) _).setCell (.inl hta) _
 have HOa := Lib.hid hOa
 clear hfin hpc hrow hrl hOa hv hvl hvL hva H hg
 have ewl : IntKind.i64.wrap (-l) = -l := IntWalk.i64_in _ (by omega)
 have hm : max l (-l) = (m : Int) + 1 := by omega
 have ewm : IntKind.i64.wrap ((m : Int) + 1 - 1) = m := by rw [IntWalk.i64_in _ (by omega)]; omega
 generalize (atomOf T.ents (m + 1)).1 = y0 at *
 generalize (atomOf T.ents (m + 1)).2.1 = y1 at *
 generalize (atomOf T.ents (m + 1)).2.2 = y2 at *
 generalize T.levels.length = lv at *
 have elb : T.ents.length + 1 ≤ 1099511627776 := by omega
 have HMM := Lib.hid hmm
 have HL := Lib.hid hl
 clear e0 e1 e2 hel hmm hl
 have hne' : b ≠ ga := fun e => hne e.symm
 by_cases hneg : l < 0
 ·have d1 : decide (l < 0) = true := decide_eq_true hneg
  have hAt := HPC.out (-1) (by rw [if_pos hneg])
  have hrz := ((((HRow.out.store (m * 3) (cI 1)).store (m * 3 + 1) (cN lv)).store (m * 3 + 2) (cI r)).store (m * 3) (cI (-1)))
  rw [List.set_comm (i := m * 3 + 2) (j := m * 3) _ _ (by omega), List.set_comm (i := m * 3 + 1) (j := m * 3) _ _ (by omega), List.set_set] at hrz
  rw [hAt] at hrz
  have hOA := (HOa.out (cI 1) (cN lv) (cI r)).setCell (p := ⟨ga, m * 3, none⟩) (.inl hta) (cI (-1))
  have hrl := HRl.out.keep hOA (fun k hk hF => by rw [hk] at hF; simp at hF) (Agree.refl _ _)
  have HRZ := Lib.hid hrz
  have HOA := Lib.hid hOA
  have HRl2 := Lib.hid hrl
  clear hAt hrz hOA hrl HPC HOa
  go_enter Tryz.func109, Tryz.ntmps109
  go_wp2_with (at_builtin; go_must (refine Row.app (u := .int .i64 l) slInt rfl (.tmp 41) (.tmp 43) rfl rfl rfl (cell_newE _ _ _ _ (by simp [World.setCell])) rfl (by exact Row.alloc HRl2.out _) (by simp [lits_len]; omega) (by decide) ?hK1))
  case hK1 =>
   intro v5 w5 r5 o5
   obtain ⟨b5, c5, rfl, -, -, -, -⟩ := r5.pos (by simp)
   have hz := HFin.out _ w5 _ _ o5 (by simp [World.setCell]) r5 (HRZ.out.alloc _) (HOA.out.alloc _)
   have hl5 : (T.lits.map cI ++ [Value.int .i64 l]).length = T.ents.length + 1 := by simp [lits_len]
   rw [hl5] at hz ⊢
   have p4 : w5.cell? ⟨b, 4, none⟩ = some (.slice al T.ents.length cl) := by
    have h1 := cell_keep q4 (HOA.out.alloc (.cells #[.int .i64 l] 3)) (by rw [htb]; simp)
    exact cell_keep h1 o5 (by rw [htb]; simp)
   have p5 : w5.frozen? ⟨b, 4, none⟩ = false := by
    have h1 := cell_keep q4 (HOA.out.alloc (.cells #[.int .i64 l] 3)) (by rw [htb]; simp)
    exact free_keep h1 (free_keep q4 fr4 (HOA.out.alloc _) (by rw [htb]; simp)) o5 (by rw [htb]; simp)
   have HZ := Lib.hid hz
   clear hz r5 o5 HRZ HOA HRl2 HFin HRl HRow
   go_wp2_with fail
   go_end0
   exact ⟨rfl, HZ.out⟩
 ·have d1 : decide (l < 0) = false := decide_eq_false hneg
  have hAt := HPC.out 1 (by rw [if_neg hneg])
  have hrz := (((HRow.out.store (m * 3) (cI 1)).store (m * 3 + 1) (cN lv)).store (m * 3 + 2) (cI r))
  rw [hAt] at hrz
  have hOA := HOa.out (cI 1) (cN lv) (cI r)
  have hrl := HRl.out.keep hOA (fun k hk hF => by rw [hk] at hF; simp at hF) (Agree.refl _ _)
  have HRZ := Lib.hid hrz
  have HOA := Lib.hid hOA
  have HRl2 := Lib.hid hrl
  clear hAt hrz hOA hrl HPC HOa
  go_enter Tryz.func109, Tryz.ntmps109
  go_wp2_with (at_builtin; go_must (refine Row.app (u := .int .i64 l) slInt rfl (.tmp 41) (.tmp 43) rfl rfl rfl (cell_newE _ _ _ _ (by simp [World.setCell])) rfl (by exact Row.alloc HRl2.out _) (by simp [lits_len]; omega) (by decide) ?hK1))
  case hK1 =>
   intro v5 w5 r5 o5
   obtain ⟨b5, c5, rfl, -, -, -, -⟩ := r5.pos (by simp)
   have hz := HFin.out _ w5 _ _ o5 (by simp [World.setCell]) r5 (HRZ.out.alloc _) (HOA.out.alloc _)
   have hl5 : (T.lits.map cI ++ [Value.int .i64 l]).length = T.ents.length + 1 := by simp [lits_len]
   rw [hl5] at hz ⊢
   have p4 : w5.cell? ⟨b, 4, none⟩ = some (.slice al T.ents.length cl) := by
    have h1 := cell_keep q4 (HOA.out.alloc (.cells #[.int .i64 l] 3)) (by rw [htb]; simp)
    exact cell_keep h1 o5 (by rw [htb]; simp)
   have p5 : w5.frozen? ⟨b, 4, none⟩ = false := by
    have h1 := cell_keep q4 (HOA.out.alloc (.cells #[.int .i64 l] 3)) (by rw [htb]; simp)
    exact free_keep h1 (free_keep q4 fr4 (HOA.out.alloc _) (by rw [htb]; simp)) o5 (by rw [htb]; simp)
   have HZ := Lib.hid hz
   clear hz r5 o5 HRZ HOA HRl2 HFin HRl HRow
   go_wp2_with fail
   go_end0
   exact ⟨rfl, HZ.out⟩
end
namespace Tr
theorem swapL_len (c : List Int) (i j : Nat) : (swapL c i j).length = c.length := by simp [swapL]
theorem swapL_map (c : List Int) (i j : Nat) : (swapL c i j).map cI = ((c.map cI).set i (cI (c.getD j 0))).set j (cI (c.getD i 0)) := by
 simp [swapL, List.map_set]
theorem range_dropP {m k : Nat} (h : k < m) : (List.range m).drop k = k :: (List.range m).drop (k + 1) := by
 rw [List.drop_eq_getElem_cons (by simpa using h)]; simp
theorem findM_drop (T : Trail) {c : List Int} {m : Nat} (h : m < c.length) : T.findM c ((List.range c.length).drop m) = if 0 ≤ T.val (c.getD m 0) then some m else T.findM c ((List.range c.length).drop (m + 1)) := by
 rw [range_dropP h, Trail.findM]
theorem findM_end (T : Trail) {c : List Int} {m : Nat} (h : c.length ≤ m) : T.findM c ((List.range c.length).drop m) = none := by
 rw [List.drop_of_length_le (by simpa using h), Trail.findM]
theorem nodup_lt {l : List Nat} {n : Nat} (hd : l.Nodup) (h : ∀ x ∈ l, x < n) : l.length ≤ n := by
 have := Up.nodup_le n (l.map (· + 1)) (by
  unfold List.Nodup
  rw [List.pairwise_map]
  exact hd.imp fun h e => h (by omega)) (fun x hx => by
  obtain ⟨y, hy, rfl⟩ := List.mem_map.1 hx
  have := h y hy
  omega)
 simpa using this
theorem Wat.len {T : Trail} (h : Wat T) (p : Nat) : (T.wt p).length ≤ T.cls.length := nodup_lt (h.nd p) (fun k hk => (h.snd p k hk).1)
theorem Ok.cl {T : Trail} (o : Ok T) {k : Nat} (hk : k < T.cls.length) : Up.Good T.n (T.cl k) := by
 unfold Trail.cl
 exact o.cls _ (getD_mem' [] hk)
theorem Ok.lit {T : Trail} (o : Ok T) {k : Nat} (hk : k < T.cls.length) {i : Nat} (hi : i < (T.cl k).length) : (T.cl k).getD i 0 ≠ 0 ∧ ((T.cl k).getD i 0).natAbs ≤ T.n := (o.cl hk).lit _ (getD_mem' 0 hi)
theorem Ok.cll {T : Trail} (o : Ok T) {k : Nat} (hk : k < T.cls.length) : (T.cl k).length ≤ T.n := (o.cl hk).len
end Tr
section
variable {w : World} {g : Tag} {b : Nat} {V : TrV} {T : Trail}
theorem TrAt.swap (H : TrAt w g b V T) {k i j : Nat} (hk : k < T.cls.length) {bc n cap : Nat} (hu : V.us.getD k nilS = .slice (some ⟨bc, 0, none⟩) n cap) :
  TrAt ((w.setCell ⟨bc, i, none⟩ (cI ((T.cl k).getD j 0))).setCell ⟨bc, j, none⟩ (cI ((T.cl k).getD i 0))) g b V (T.setC k (swapL (T.cl k) i j)) ∧
   Only (fun m => g m = (34, k)) w ((w.setCell ⟨bc, i, none⟩ (cI ((T.cl k).getD j 0))).setCell ⟨bc, j, none⟩ (cI ((T.cl k).getD i 0))) := by
 have hr := H.ci k hk
 rw [hu] at hr
 have ht : g bc = (34, k) := hr.tg bc rfl
 have ho : Only (fun m => g m = (34, k)) w ((w.setCell ⟨bc, i, none⟩ (cI ((T.cl k).getD j 0))).setCell ⟨bc, j, none⟩ (cI ((T.cl k).getD i 0))) := ((Only.refl _ w).setCell (.inl ht) _).setCell (.inl ht) _
 refine ⟨H.setC (Agree.refl _ _) (H.fresh.more ho.size) ho ?_, ho⟩
 rw [hu, swapL_map]
 exact (hr.store i _).store j _
def MovTo (w : World) (g : Tag) (b : Nat) (V : TrV) (T : Trail) (k : Nat) (w' : World) : Prop :=
 ∃ g' V', TrAt w' g' b V' (T.moves k).1 ∧ Agree w g g' ∧ Only (Mine g) w w' ∧ (∀ p, (∀ j, 2 ≤ j → j < (T.cl k).length → 0 ≤ T.val ((T.cl k).getD j 0) → place ((T.cl k).getD j 0) ≠ p) → V'.ws.getD p nilS = V.ws.getD p nilS) ∧ ((T.moves k).2 = false → w = w')
set_option maxRecDepth 100000 in
set_option maxHeartbeats 3200000 in
theorem prop_moves_any (H : TrAt w g b V T) (o : Ok T) (hwb : ∀ p, (T.wt p).length ≤ 2147483648) (k : Nat) (hk : k < T.cls.length) (r : Bool) (hr : (T.moves k).2 = r) :
  Calls Tryz.prog 108 #[.pointer (some ⟨b, 0, none⟩), cN k] w fun e w' => e = .returned (.bool r) ∧ MovTo w g b V T k w' := by
 have hn := o.n
 have hcb := o.cb
 have q1 := H.f1
 obtain ⟨bcs, cc, hvc, hc1, hc2, htc, -⟩ := H.c.pos (by rw [H.ul]; omega)
 have hrc := H.c
 rw [hvc, H.ul] at q1
 rw [hvc, H.ul] at hrc
 have q2 := hrc.cell nilS (i := k) (by rw [H.ul]; exact hk)
 have hrk := H.ci k hk
 obtain ⟨au, cu, hvu, hu1, hu2⟩ := hrk.shape
 rw [hvu] at q2
 simp only [List.length_map] at q2 hvu hu1
 have hcl := o.cll hk
 have hdef : T.cl k = T.cls.getD k [] := rfl
 rw [← hdef] at q2 hvu hu1
 have hmv : T.moves k = match T.findM (T.cl k) ((List.range (T.cl k).length).drop 2) with | some j => (T.moveTo k j, true) | none => (T, false) := rfl
 have HMv := Lib.hid hmv
 have HR := Lib.hid hr
 have HH := Lib.hid H
 have HOk := Lib.hid o
 have lim : (T.cl k).length ≤ 65536 := by omega
 clear hmv hr hrc hc1 hc2 hvc hdef H o
 go_enter Tryz.func108, Tryz.ntmps108
 go_wp2_with fail
 go_loopw [6] (fun v wr => ∃ m : Nat, v = .int .i64 m ∧ 2 ≤ m ∧ m ≤ max 2 (T.cl k).length ∧ T.findM (T.cl k) ((List.range (T.cl k).length).drop 2) = T.findM (T.cl k) ((List.range (T.cl k).length).drop m) ∧ w = wr) (fun v _ => (T.cl k).length - (intOf v).toNat)
 case atStart => exact ⟨2, rfl, by omega, by omega, rfl, rfl⟩
 case round =>
  obtain ⟨m, rfl, hm2, hm3, hF, rfl⟩ := hrel
  by_cases cm : m < (T.cl k).length
  ·have hrow := hrk
   rw [show T.cls.getD k [] = T.cl k from rfl, hvu] at hrow
   obtain ⟨bc, hau⟩ : ∃ bc, au = some ⟨bc, 0, none⟩ := by
    obtain ⟨bc, _, he, _⟩ := hrow.pos (by simp; omega)
    simp at he; exact ⟨bc, he.1⟩
   subst hau
   have q3 := hrow.cellM (f := cI) 0 (i := m) cm
   have hlit := HOk.out.lit hk cm
   have hlI : InI64 ((T.cl k).getD m 0) := by unfold InI64; omega
   rw [findM_drop T cm] at hF
   obtain ⟨vx, hvx⟩ : ∃ vx, T.val ((T.cl k).getD m 0) = vx := ⟨_, rfl⟩
   have hV := prop_Value_any HH.out HOk.out _ hlI vx hvx
   rw [hvx] at hF
   have HV := Lib.hid hV
   have HVx := Lib.hid hvx
   clear hV hvx
   by_cases c0 : 0 ≤ vx
   ·rw [if_pos c0] at hF
    have hres : T.moves k = (T.moveTo k m, true) := by rw [HMv.out, hF]
    have hr' : r = true := by rw [← HR.out, hres]
    subst hr'
    have HRes := Lib.hid hres
    have d1 : decide (0 ≤ vx) = true := decide_eq_true c0
    have k1 := hrow.cellM (f := cI) 0 (i := 1) (by omega)
    have f1 := hrow.free 1
    have fm := hrow.free m
    have htb : g bc = (34, k) := hrow.tg bc rfl
    clear hres hF hrow
    obtain ⟨x, hx⟩ : ∃ x, (T.cl k).getD m 0 = x := ⟨_, rfl⟩
    obtain ⟨y, hy⟩ : ∃ y, (T.cl k).getD 1 0 = y := ⟨_, rfl⟩
    rw [hx] at q3 HV hlit hlI
    rw [hy] at k1
    have HX := Lib.hid hx
    have HY := Lib.hid hy
    have hsw : TrAt ((w.setCell ⟨bc, 1, none⟩ (.int .i64 x)).setCell ⟨bc, m, none⟩ (.int .i64 y)).drew g b V (T.setC k (swapL (T.cl k) 1 m)) ∧ Only (fun q => g q = (34, k)) w ((w.setCell ⟨bc, 1, none⟩ (.int .i64 x)).setCell ⟨bc, m, none⟩ (.int .i64 y)).drew := by
     have := HH.out.swap (i := 1) (j := m) hk hvu
     rw [HX.out, HY.out] at this; exact ⟨this.1.drew, this.2.drew⟩
    have HSw := Lib.hid hsw
    clear hsw
    have b1 : (1 : Int) < ((T.cl k).length : Int) := by omega
    have b2 : (m : Int) < ((T.cl k).length : Int) := by omega
    have mne : m ≠ 1 := by omega
    clear hx hy
    go_wp2_with fail
    refine HV.out.mono ?_
    rintro e w1 ⟨rfl, rfl⟩
    go_wp2_with fail
    refine wp_region_G (n := 14) (E := fun i => i == 11 || i == 13) (S := fun w' => w'.cell? ⟨bc, 1, none⟩ = some (cI y) ∧ w'.cell? ⟨bc, m, none⟩ = some (cI x) ∧ w'.frozen? ⟨bc, 1, none⟩ = false ∧ w'.frozen? ⟨bc, m, none⟩ = false) (by kernel_rfl) rfl ⟨k1, q3, f1, fm⟩ (fun hHeld => ?_)
    refine tqW (i := 0) (v := ?_) rfl (.inr (by assumption)) ?_ ?_
    rotate_left
    ·(intro w; go_simp <;> (try with_reducible rfl))
    try simp only [Act.put, zq1, zq3, zq4, zq5, zq6]
    refine tqW (i := 1) (v := ?_) rfl (.inr (by assumption)) ?_ ?_
    rotate_left
    ·(intro w; go_simp <;> (try with_reducible rfl))
    try simp only [Act.put, zq1, zq2, zq3, zq4, zq5, zq6]
    refine tqW (i := 2) (v := ?_) rfl (.inr (by assumption)) ?_ ?_
    rotate_left
    ·(intro w; go_simp <;> (try with_reducible rfl))
    try simp only [Act.put, zq1, zq2, zq3, zq4, zq5, zq6]
    refine tqW (i := 3) (v := ?_) rfl (.inr (by assumption)) ?_ ?_
    rotate_left
    ·(intro w; go_simp <;> (try with_reducible rfl))
    try simp only [Act.put, zq1, zq2, zq3, zq4, zq5, zq6]
    refine tqW (i := 4) (v := ?_) rfl (.inr (by assumption)) ?_ ?_
    rotate_left
    ·(intro w; go_simp <;> (try with_reducible rfl))
    try simp only [Act.put, zq1, zq2, zq3, zq4, zq5, zq6]
    refine tqW (i := 5) (v := ?_) rfl (.inr (by assumption)) ?_ ?_
    rotate_left
    ·(intro w; go_simp <;> (try with_reducible rfl))
    try simp only [Act.put, zq1, zq2, zq3, zq4, zq5, zq6]
    refine tqK (i := 6) (v := ?_) rfl ?_ ?_
    rotate_left
    ·(intro w hSw; (try dsimp only at hSw); go_simp <;> (try with_reducible rfl))
    try simp only [Act.put, zq1, zq2, zq3, zq4, zq5, zq6]
    refine tqW (i := 7) (v := ?_) rfl (.inr (by assumption)) ?_ ?_
    rotate_left
    ·(intro w; go_simp <;> (try with_reducible rfl))
    try simp only [Act.put, zq1, zq2, zq3, zq4, zq5, zq6]
    refine tqW (i := 8) (v := ?_) rfl (.inr (by assumption)) ?_ ?_
    rotate_left
    ·(intro w; go_simp <;> (try with_reducible rfl))
    try simp only [Act.put, zq1, zq2, zq3, zq4, zq5, zq6]
    refine tqK (i := 9) (v := ?_) rfl ?_ ?_
    rotate_left
    ·(intro w hSw; (try dsimp only at hSw); go_simp <;> (try with_reducible rfl))
    try simp only [Act.put, zq1, zq2, zq3, zq4, zq5, zq6]
    refine tqW (i := 10) (v := ?_) rfl (.inr (by assumption)) ?_ ?_
    rotate_left
    ·(intro w; go_simp <;> (try with_reducible rfl))
    try simp only [Act.put, zq1, zq2, zq3, zq4, zq5, zq6]
    refine wpAnyG_ready (rs := [11]) (by kernel_rfl) (by simp) ?_
    refine AllReadyG.late (i := 11) rfl (by kernel_rfl) (fun K hK => ?_) ?_
    ·(obtain ⟨s1, s2, s3, s4⟩ := hHeld; go_simp)
     refine hK.out _ _ ?_
     clear hK K
     try simp only [Act.put, zq1, zq2, zq3, zq4, zq5, zq6]
     refine tqW (i := 12) (v := ?_) rfl (.inl (by kernel_rfl)) ?_ ?_
     rotate_left
     ·(intro w; go_simp <;> (try with_reducible rfl))
     try simp only [Act.put, zq1, zq2, zq3, zq4, zq5, zq6]
     refine wpAnyG_ready (rs := [13]) (by kernel_rfl) (by simp) ?_
     refine AllReadyG.late (i := 13) rfl (by kernel_rfl) (fun K hK => ?_) ?_
     ·(go_simp)
      refine hK.out _ _ ?_
      clear hK K
      try simp only [Act.put, zq1, zq2, zq3, zq4, zq5, zq6]
      refine wpAnyG_done (by kernel_rfl) ?_ _
      obtain ⟨H2, O2⟩ := HSw.out
      clear HSw
      have hO2 : Only (Mine g) w ((w.setCell ⟨bc, 1, none⟩ (.int .i64 x)).setCell ⟨bc, m, none⟩ (.int .i64 y)).drew := O2.mono fun q hq => by unfold Mine; rw [hq]; simp
      clear s1 s2 s3 s4
      generalize ((w.setCell ⟨bc, 1, none⟩ (.int .i64 x)).setCell ⟨bc, m, none⟩ (.int .i64 y)).drew = w2 at *
      have hpl : place x < 2 * T.n := Rup.place_lt hlit
      have p3 := H2.f3
      obtain ⟨bw, cw, hvw, -, -, htw, -⟩ := H2.wr.pos (by rw [H2.wl]; simp only [Trail.setC]; omega)
      have hwl : V.ws.length = 2 * T.n := H2.wl
      have hwr := H2.wr
      rw [hvw, hwl] at p3
      rw [hvw, hwl] at hwr
      have p4 := hwr.cell nilS (i := place x) (by omega)
      have p5 := hwr.free (place x)
      have hru := H2.wi (place x) hpl
      rw [show (T.setC k (swapL (T.cl k) 1 m)).watch.getD (place x) [] = T.wt (place x) from rfl] at hru
      obtain ⟨aw, cpw, hvws, -, -⟩ := hru.shape
      rw [hvws] at p4 hru
      simp only [List.length_map] at p4 hru
      have hwb := hwb (place x)
      have hx1 : w2.cell? ⟨bc, 1, none⟩ = some (.int .i64 x) := by
       have hci := H2.ci k (by simpa [Trail.setC] using hk)
       rw [hvu] at hci
       have hcm := hci.cellM (f := cI) 0 (i := 1) (by simp only [Trail.setC]; rw [getD_set1 hk, swapL_len]; omega)
       rw [hcm]
       simp only [Trail.setC]
       rw [getD_set1 hk, swapL, getD_set2 mne, getD_set1 (by omega), HX.out]
      have hmt : T.moveTo k m = (T.setC k (swapL (T.cl k) 1 m)).setW (place x) (T.wt (place x) ++ [k]) := by
       unfold Trail.moveTo
       have e : (swapL (T.cl k) 1 m).getD 1 0 = x := by rw [swapL, getD_set2 mne, getD_set1 (by omega), HX.out]
       simp only [e]
       rfl
      have hfin7 : ∀ wA w5 v' s, Only (fun q => g q = (37, place x)) wA w5 → wA.heap.size = s → Row w5 (Tag.put g s w5.heap.size (37, place x)) (37, place x) 3 v' ((T.wt (place x)).map cN ++ [.int .i64 (k : Int)]) → Only (fun _ => False) w2 wA → MovTo w g b V T k (w5.setCell ⟨bw, place x, none⟩ v') := by
       intro wA w5 v' s o5 hs r5 oA
       subst hs
       have ag : Agree w2 g (Tag.put g wA.heap.size w5.heap.size (37, place x)) := Agree.put g _ oA.size
       have o25 : Only (fun q => g q = (37, place x)) w2 w5 := (oA.mono fun _ f => f.elim).same o5
       have h7 := H2.setW (p := place x) (ks := T.wt (place x) ++ [k]) (v := v') (by simp only [Trail.setC]; exact HOk.out.wl) hpl hvw ag (Fresh.put (w := wA) (37, place x) (H2.fresh.more oA.size) o5.size) o25 (by simpa [List.map_append] using r5)
       refine ⟨_, _, by rw [HRes.out, hmt]; exact h7, fun q hq => ag q (by have := hO2.size; omega), ?_, fun p hp => ?_, fun h => by rw [HRes.out] at h; cases h⟩
       ·refine (hO2.same (o25.mono fun q hq => by unfold Mine; rw [hq]; simp)).setCell (.inl ?_) _
        unfold Mine; rw [htw]; simp
       ·have := hp m hm2 cm (by rw [HVx.out]; exact c0)
        rw [HX.out] at this
        exact getD_set2 this _ _
      have HFin7 := Lib.hid (fun wA w5 v' s a1 a2 a3 => fun (a4 : Only (fun _ => False) w2 wA) => hfin7 wA w5 v' s a1 a2 a3 a4)
      have hS5 : ∀ w5, Only (fun q => g q = (37, place x)) w2 w5 → w5.cell? ⟨b, 3, none⟩ = some (.slice (some ⟨bw, 0, none⟩) (2 * T.n) cw) ∧ w5.cell? ⟨bc, 1, none⟩ = some (.int .i64 x) ∧ w5.cell? ⟨bw, place x, none⟩ = some (.slice aw (T.wt (place x)).length cpw) ∧ w5.frozen? ⟨bw, place x, none⟩ = false := by
       intro w5 hx5
       exact ⟨cell_keep p3 hx5 (by rw [H2.tb]; simp), cell_keep hx1 hx5 (by rw [htb]; simp), cell_keep p4 hx5 (by rw [htw]; simp), free_keep p4 p5 hx5 (by rw [htw]; simp)⟩
      have HS5 := Lib.hid hS5
      have HRu := Lib.hid hru
      have pb : (place x : Int) < ((2 * T.n : Nat) : Int) := by omega
      clear hS5 hfin7 hmt hru hwr O2 H2 hvws hO2
      generalize hM2 : 2 * T.n = m2 at *
      clear hM2
      go_wp2_with fail
      refine wp_region_G (n := 23) (E := fun i => i == 22) (S := fun w' => w'.cell? ⟨b, 3, none⟩ = some (.slice (some ⟨bw, 0, none⟩) m2 cw) ∧ w'.cell? ⟨bc, 1, none⟩ = some (.int .i64 x) ∧ w'.cell? ⟨bw, place x, none⟩ = some (.slice aw (T.wt (place x)).length cpw) ∧ w'.frozen? ⟨bw, place x, none⟩ = false) (by kernel_rfl) rfl ⟨p3, hx1, p4, p5⟩ (fun hHeld => ?_)
      refine tqW (i := 0) (v := ?_) rfl (.inr (by assumption)) ?_ ?_
      rotate_left
      ·(intro w; go_simp <;> (try with_reducible rfl))
      try simp only [Act.put, zq1, zq3, zq4, zq5, zq6]
      refine tqW (i := 1) (v := ?_) rfl (.inr (by assumption)) ?_ ?_
      rotate_left
      ·(intro w; go_simp <;> (try with_reducible rfl))
      try simp only [Act.put, zq1, zq2, zq3, zq4, zq5, zq6]
      refine tqW (i := 2) (v := ?_) rfl (.inr (by assumption)) ?_ ?_
      rotate_left
      ·(intro w; go_simp <;> (try with_reducible rfl))
      try simp only [Act.put, zq1, zq2, zq3, zq4, zq5, zq6]
      refine tqK (i := 3) (v := ?_) rfl ?_ ?_
      rotate_left
      ·(intro w hSw; (try dsimp only at hSw); go_simp <;> (try with_reducible rfl))
      try simp only [Act.put, zq1, zq2, zq3, zq4, zq5, zq6]
      refine tqW (i := 4) (v := ?_) rfl (.inr (by assumption)) ?_ ?_
      rotate_left
      ·(intro w; go_simp <;> (try with_reducible rfl))
      try simp only [Act.put, zq1, zq2, zq3, zq4, zq5, zq6]
      refine tqW (i := 5) (v := ?_) rfl (.inr (by assumption)) ?_ ?_
      rotate_left
      ·(intro w; go_simp <;> (try with_reducible rfl))
      try simp only [Act.put, zq1, zq2, zq3, zq4, zq5, zq6]
      refine tqK (i := 6) (v := ?_) rfl ?_ ?_
      rotate_left
      ·(intro w hSw; (try dsimp only at hSw); go_simp <;> (try with_reducible rfl))
      try simp only [Act.put, zq1, zq2, zq3, zq4, zq5, zq6]
      refine wpAnyG_takeC (i := 7) (v := ?_) (f := 89) (args := #[.int .i64 x]) rfl (by kernel_rfl) (by kernel_rfl) (by kernel_rfl) rfl (by kernel_rfl) (by kernel_rfl) (fun _ _ _ h => h) (by assumption) (by rfl) ?_ ?_ ?_
      rotate_left
      ·(intro w; go_simp <;> (try with_reducible rfl))
      ·(intro w hSw; exact prop_place_any x T.n hn hlit (place x : Int) rfl)
      try simp only [Act.put, zq1, zq2, zq3, zq4, zq5, zq6]
      refine tqW (i := 8) (v := ?_) rfl (.inr (by assumption)) ?_ ?_
      rotate_left
      ·(intro w; go_simp <;> (try with_reducible rfl))
      try simp only [Act.put, zq1, zq2, zq3, zq4, zq5, zq6]
      refine tqW (i := 9) (v := ?_) rfl (.inr (by assumption)) ?_ ?_
      rotate_left
      ·(intro w; go_simp <;> (try with_reducible rfl))
      try simp only [Act.put, zq1, zq2, zq3, zq4, zq5, zq6]
      refine tqW (i := 10) (v := ?_) rfl (.inr (by assumption)) ?_ ?_
      rotate_left
      ·(intro w; go_simp <;> (try with_reducible rfl))
      try simp only [Act.put, zq1, zq2, zq3, zq4, zq5, zq6]
      refine tqK (i := 11) (v := ?_) rfl ?_ ?_
      rotate_left
      ·(intro w hSw; (try dsimp only at hSw); go_simp <;> (try with_reducible rfl))
      try simp only [Act.put, zq1, zq2, zq3, zq4, zq5, zq6]
      refine tqW (i := 12) (v := ?_) rfl (.inr (by assumption)) ?_ ?_
      rotate_left
      ·(intro w; go_simp <;> (try with_reducible rfl))
      try simp only [Act.put, zq1, zq2, zq3, zq4, zq5, zq6]
      refine tqW (i := 13) (v := ?_) rfl (.inr (by assumption)) ?_ ?_
      rotate_left
      ·(intro w; go_simp <;> (try with_reducible rfl))
      try simp only [Act.put, zq1, zq2, zq3, zq4, zq5, zq6]
      refine tqK (i := 14) (v := ?_) rfl ?_ ?_
      rotate_left
      ·(intro w hSw; (try dsimp only at hSw); go_simp <;> (try with_reducible rfl))
      try simp only [Act.put, zq1, zq2, zq3, zq4, zq5, zq6]
      refine wpAnyG_takeC (i := 15) (v := ?_) (f := 89) (args := #[.int .i64 x]) rfl (by kernel_rfl) (by kernel_rfl) (by kernel_rfl) rfl (by kernel_rfl) (by kernel_rfl) (fun _ _ _ h => h) (by assumption) (by rfl) ?_ ?_ ?_
      rotate_left
      ·(intro w; go_simp <;> (try with_reducible rfl))
      ·(intro w hSw; exact prop_place_any x T.n hn hlit (place x : Int) rfl)
      try simp only [Act.put, zq1, zq2, zq3, zq4, zq5, zq6]
      refine tqW (i := 16) (v := ?_) rfl (.inr (by assumption)) ?_ ?_
      rotate_left
      ·(intro w; go_simp <;> (try with_reducible rfl))
      try simp only [Act.put, zq1, zq2, zq3, zq4, zq5, zq6]
      refine tqK (i := 17) (v := ?_) rfl ?_ ?_
      rotate_left
      ·(intro w hSw; (try dsimp only at hSw); go_simp <;> (try with_reducible rfl))
      try simp only [Act.put, zq1, zq2, zq3, zq4, zq5, zq6]
      refine tqW (i := 18) (v := ?_) rfl (.inr (by assumption)) ?_ ?_
      rotate_left
      ·(intro w; go_simp <;> (try with_reducible rfl))
      try simp only [Act.put, zq1, zq2, zq3, zq4, zq5, zq6]
      refine wpAnyG_ready (rs := [19]) (by kernel_rfl) (by simp) ?_
      refine AllReadyG.cons (i := 19) rfl (fun K hK => ?_) ?_
      ·go_simp
       refine hK.out _ _ ?_ (fun hHeld => ?_)
       ·(try dsimp only) <;> (exact HS5.out _ (by repeat (first | exact Only.refl _ _ | apply Only.drew | apply Only.alloc | apply Only.drewN)))
       clear hK K
       try simp only [Act.put, zq1, zq2, zq3, zq4, zq5, zq6]
       refine wpAnyG_ready (rs := [20]) (by kernel_rfl) (by simp) ?_
       refine AllReadyG.cons (i := 20) rfl (fun K hK => ?_) ?_
       ·(refine Row.step (u := .int .i64 (k : Int)) slInt (by rfl) (.tmp 56) (.tmp 58) (by rfl) (by rfl) (by rfl) (by simp) rfl (by repeat (first | exact HRu.out | apply Row.drew | apply Row.alloc | apply Row.drewN)) (by simp; omega) (by decide) ?_; intro bb cap w5 rr1 rr2; simp only [List.length_map] at rr1 ⊢)
        refine hK.out _ _ ?_ (fun hHeld => ?_)
        ·(try dsimp only) <;> (exact HS5.out _ (Only.same (by repeat (first | exact Only.refl _ _ | apply Only.drew | apply Only.alloc | apply Only.drewN)) rr2))
        clear hK K
        try simp only [Act.put, zq1, zq2, zq3, zq4, zq5, zq6]
        refine tqW (i := 21) (v := ?_) rfl (.inr (by assumption)) ?_ ?_
        rotate_left
        ·(intro w; go_simp <;> (try with_reducible rfl))
        try simp only [Act.put, zq1, zq2, zq3, zq4, zq5, zq6]
        refine wpAnyG_ready (rs := [22]) (by kernel_rfl) (by simp) ?_
        refine AllReadyG.late (i := 22) rfl (by kernel_rfl) (fun K hK => ?_) ?_
        ·(obtain ⟨s1, s2, s3, s4⟩ := hHeld; go_simp)
         refine hK.out _ _ ?_
         clear hK K
         try simp only [Act.put, zq1, zq2, zq3, zq4, zq5, zq6]
         refine wpAnyG_done (by kernel_rfl) ?_ _
         have hfin := HFin7.out _ w5 _ _ rr2 (by simp) rr1 (((Only.refl _ _).alloc _).drew)
         have HFin8 := Lib.hid hfin
         clear hfin rr1 rr2 HFin7
         go_wp2_with fail
         go_ret
         exact ⟨rfl, HFin8.out⟩
        exact AllReadyG.nil
       exact AllReadyG.nil
      exact AllReadyG.nil
     exact AllReadyG.nil
    exact AllReadyG.nil
   ·rw [if_neg c0] at hF
    have d1 : decide (0 ≤ vx) = false := decide_eq_false c0
    have HF := Lib.hid hF
    clear hF hrow
    generalize (T.cl k).getD m 0 = x at *
    go_wp2_with fail
    refine HV.out.mono ?_
    rintro e w1 ⟨rfl, rfl⟩
    go_wp2_with fail
    go_roundw
    case rel => exact ⟨m + 1, by go_num, by omega, by omega, HF.out, by first | rfl | trivial⟩
    case measure => simp [intOf]; omega
  ·rw [findM_end T (c := T.cl k) (m := m) (by omega)] at hF
   have hres : T.moves k = (T, false) := by rw [HMv.out, hF]
   have hr' : r = false := by rw [← HR.out, hres]
   subst hr'
   have hfin : MovTo w g b V T k w := ⟨g, V, by rw [hres]; exact HH.out, Agree.refl _ _, Only.refl _ _, fun _ _ => rfl, fun _ => rfl⟩
   have HFin := Lib.hid hfin
   clear hfin hF hres
   go_wp2_with fail
   go_ret
   exact ⟨rfl, HFin.out⟩
end
end Go.Proofs.YtjedgdamommgeaaGreat

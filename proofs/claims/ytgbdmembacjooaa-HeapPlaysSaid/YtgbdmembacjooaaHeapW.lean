/- The walks of package heap: each method computes what the plain functions of HeapFn say. -/
import Derived.Test.YtgbdmembacjooaaRows
import Derived.Test.YtgbdmembacjooaaMem
import Derived.Test.YtgbdmembacjooaaHeapFn
namespace Go.Proofs.Ytgbdmembacjooaa
open Go.RowKit

def cL (a : Nat) : Value := .int .i64 ((a : Int) + 1)
def cA (z : Int) : Value := .int .i64 z
def cS (s : Nat) : Value := .int .u64 (s : Int)

/-- No two of the heap's blocks are one. -/
structure HApart (b : Nat) (vl va vs : Value) : Prop where
  l : vl.ownBlock ≠ some b
  a : va.ownBlock ≠ some b
  s : vs.ownBlock ≠ some b
  la : ∀ k, vl.ownBlock = some k → va.ownBlock ≠ some k
  ls : ∀ k, vl.ownBlock = some k → vs.ownBlock ≠ some k
  as_ : ∀ k, va.ownBlock = some k → vs.ownBlock ≠ some k

/-- Which blocks a heap takes. -/
def HFoot (b : Nat) (vl va vs : Value) (k : Nat) : Prop := k = b ∨ vl.ownBlock = some k ∨ va.ownBlock = some k ∨ vs.ownBlock = some k

structure HeapAt (w : World) (b : Nat) (vl va vs : Value) (h : Hp) : Prop where
  blk : w.heap[b]? = some (.cells #[vl, va, vs] 44 (0, 0))
  l : w.ownsRow 0 3 1 vl h.L.length (h.L.map cL)
  a : w.ownsRow 0 3 1 va h.A.length (h.A.map cA)
  s : w.ownsRow 0 28 1 vs h.S.length (h.S.map cS)
  apart : HApart b vl va vs

theorem HeapAt.drewN {w : World} {b : Nat} {vl va vs : Value} {h : Hp} (H : HeapAt w b vl va vs h) (n : Nat) : HeapAt (w.drewN n) b vl va vs h := ⟨H.blk, H.l, H.a, H.s, H.apart⟩

theorem HeapAt.c0 {w : World} {b : Nat} {vl va vs : Value} {h : Hp} (H : HeapAt w b vl va vs h) : w.cell? ⟨b, 0, none⟩ = some vl := by rw [cell_block H.blk]; rfl
theorem HeapAt.c1 {w : World} {b : Nat} {vl va vs : Value} {h : Hp} (H : HeapAt w b vl va vs h) : w.cell? ⟨b, 1, none⟩ = some va := by rw [cell_block H.blk]; rfl
theorem HeapAt.c2 {w : World} {b : Nat} {vl va vs : Value} {h : Hp} (H : HeapAt w b vl va vs h) : w.cell? ⟨b, 2, none⟩ = some vs := by rw [cell_block H.blk]; rfl

theorem row_cell {w : World} {e : TypeId} {g n cap : Nat} {α : Type} {f : α → Value} {xs : List α} (h : w.ownsRow 0 e 1 (.slice (some ⟨g, 0, none⟩) n cap) n (xs.map f)) (d : α) {i : Nat} (hi : i < xs.length) :
    w.cell? ⟨g, i, none⟩ = some (f (xs.getD i d)) := by
  have hn : xs.length = n := by simpa using h.1
  rw [h.cellAt i (by omega)]
  simp [List.getD, List.getElem?_eq_getElem hi]

set_option maxHeartbeats 400000 in
theorem before_core (b gl cl gs cs nl ns : Nat) (i k x y : Nat) (sx sy : Nat) (w : World)
   (h0 : w.cell? ⟨b, 0, none⟩ = some (.slice (some ⟨gl, 0, none⟩) nl cl))
   (h2 : w.cell? ⟨b, 2, none⟩ = some (.slice (some ⟨gs, 0, none⟩) ns cs))
   (hi2 : i < nl) (hk2 : k < nl)
   (hx : w.cell? ⟨gl, i, none⟩ = some (.int .i64 (x+1)))
   (hy : w.cell? ⟨gl, k, none⟩ = some (.int .i64 (y+1)))
   (hx2 : x < ns) (hy2 : y < ns) (hns : ns ≤ 9223372036854775807)
   (hsx : w.cell? ⟨gs, x, none⟩ = some (.int .u64 sx))
   (hsy : w.cell? ⟨gs, y, none⟩ = some (.int .u64 sy)) :
   Calls Try.prog 22 #[.pointer (some ⟨b, 0, none⟩), .int .i64 i, .int .i64 k] w fun e w' =>
     e = .returned (.bool (decide (sy < sx) || (sx == sy && decide (x < y)))) ∧ ∃ n, w' = w.drewN n := by
  have e1 : IntKind.i64.wrap (x : Int) = x := IntWalk.i64_in _ (by omega)
  have e2 : IntKind.i64.wrap (y : Int) = y := IntWalk.i64_in _ (by omega)
  go_enter Try.func22, Try.ntmps22
  go_wp2
  go_quiet (fail)
  go_wp2
  go_quiet (fail)
  clear e1 e2
  by_cases c1 : sy < sx
  · go_wp2
    go_ret
    exact ⟨by simp [c1], _, rfl⟩
  · by_cases c2 : sx = sy
    · subst c2
      go_wp2
      go_ret
      exact ⟨by simp, _, rfl⟩
    · have c3 : ((sx : Int) == (sy : Int)) = false := by simp; omega
      go_wp2
      go_ret
      exact ⟨by simp [c1, c2], _, rfl⟩

theorem before_any {w : World} {b : Nat} {vl va vs : Value} {h : Hp} (H : HeapAt w b vl va vs h) (o : h.Ok) (i k : Nat) (hi : i < h.L.length) (hk : k < h.L.length) :
    Calls Try.prog 22 #[.pointer (some ⟨b, 0, none⟩), .int .i64 i, .int .i64 k] w fun e w' =>
      e = .returned (.bool (h.bef i k)) ∧ ∃ n, w' = w.drewN n := by
  obtain ⟨gl, cl, rfl, _, _⟩ := own_some H.l (by omega)
  have hs : 0 < h.S.length := by have := o.lt hi; omega
  obtain ⟨gs, cs, rfl, _, _⟩ := own_some H.s hs
  have hn := o.n
  exact before_core b gl cl gs cs _ _ i k (h.at1 i) (h.at1 k) (h.sc (h.at1 i)) (h.sc (h.at1 k)) w H.c0 H.c2 hi hk (row_cell H.l 0 hi) (row_cell H.l 0 hk)
    (o.lt hi) (o.lt hk) (by omega) (row_cell H.s 0 (o.lt hi)) (row_cell H.s 0 (o.lt hk))

set_option maxHeartbeats 800000 in
theorem swap_core (b gl cl ga ca nl na : Nat) (i k x y : Nat) (zx zy : Int) (w : World) (hbl : gl ≠ b) (hba : ga ≠ b) (hla : gl ≠ ga)
   (h0 : w.cell? ⟨b, 0, none⟩ = some (.slice (some ⟨gl, 0, none⟩) nl cl))
   (h2 : w.cell? ⟨b, 1, none⟩ = some (.slice (some ⟨ga, 0, none⟩) na ca))
   (hi2 : i < nl) (hk2 : k < nl)
   (hx : w.cell? ⟨gl, i, none⟩ = some (.int .i64 (x+1)))
   (hy : w.cell? ⟨gl, k, none⟩ = some (.int .i64 (y+1)))
   (hx2 : x < na) (hy2 : y < na) (hns : na ≤ 9223372036854775807)
   (hf : ∀ j, w.frozen? ⟨gl, j, none⟩ = false) (hfa : ∀ j, w.frozen? ⟨ga, j, none⟩ = false)
   (hsx : w.cell? ⟨ga, x, none⟩ = some (.int .i64 zx))
   (hsy : w.cell? ⟨ga, y, none⟩ = some (.int .i64 zy)) :
   Calls Try.prog 19 #[.pointer (some ⟨b, 0, none⟩), .int .i64 i, .int .i64 k] w fun e w' =>
     e = .returned (.tuple #[]) ∧ ∃ n, w' = ((((w.setCell ⟨gl, i, none⟩ (.int .i64 (y+1))).setCell ⟨gl, k, none⟩ (.int .i64 (x+1))).setCell ⟨ga, x, none⟩ (.int .i64 k)).setCell ⟨ga, y, none⟩ (.int .i64 i)).drewN n := by
  have e1 : IntKind.i64.wrap (x : Int) = x := IntWalk.i64_in _ (by omega)
  have e2 : IntKind.i64.wrap (y : Int) = y := IntWalk.i64_in _ (by omega)
  obtain ⟨v1, hv1⟩ := cell?_setCell_some (w := w) (p := ⟨gl, i, none⟩) (x := .int .i64 (y+1)) (q := ⟨gl, k, none⟩) hy
  have hsy' : ((w.setCell ⟨gl, i, none⟩ (.int .i64 (y+1))).setCell ⟨gl, k, none⟩ (.int .i64 (x+1))).cell? ⟨ga, y, none⟩ = some (.int .i64 zy) := by
    rw [World.cell?_setCell_other _ _ _ _ (by simp), World.cell?_setCell_other _ _ _ _ (by simp), hsy]
  obtain ⟨v2, hv2⟩ := cell?_setCell_some (p := ⟨ga, x, none⟩) (x := .int .i64 k) (q := ⟨ga, y, none⟩) hsy'
  have sd : ∀ (W : World) n a v, (W.drewN n).setCell a v = (W.setCell a v).drewN n := fun _ _ _ _ => rfl
  go_enter Try.func19, Try.ntmps19
  go_wp2
  go_quiet (fail)
  go_wp2
  go_region
  go_wp2
  go_region
  go_wp2
  go_end0
  exact ⟨rfl, _, rfl⟩

section
variable {w : World} {b : Nat} {vl va vs : Value} {h : Hp}

theorem HeapAt.only (H : HeapAt w b vl va vs h) {w' : World} {F : Nat → Prop} (ho : Only F w w') (hb : ¬ F b) (hl : ∀ k, vl.ownBlock = some k → ¬ F k)
    (ha : ∀ k, va.ownBlock = some k → ¬ F k) (hs : ∀ k, vs.ownBlock = some k → ¬ F k) : HeapAt w' b vl va vs h :=
  ⟨only_block H.blk ho hb, own_only H.l ho hl, own_only H.a ho ha, own_only H.s ho hs, H.apart⟩

theorem HeapAt.setL {gl cl nl : Nat} (H : HeapAt w b (.slice (some ⟨gl, 0, none⟩) nl cl) va vs h) (i a : Nat) :
    HeapAt (w.setCell ⟨gl, i, none⟩ (cL a)) b (.slice (some ⟨gl, 0, none⟩) nl cl) va vs { h with L := h.L.set i a } := by
  have hl := H.apart.l
  have hn : nl = h.L.length := by obtain ⟨_, _, he, _⟩ := own_slice H.l; simp at he; omega
  subst hn
  refine ⟨set_block_other H.blk (by simpa [Value.ownBlock, eq_comm] using hl) _, ?_, ownsRow_setCell_other H.a (H.apart.la gl rfl) _, ownsRow_setCell_other H.s (H.apart.ls gl rfl) _, H.apart⟩
  have := (H.l.stored i (cL a)).1
  simpa [List.map_set] using this

theorem HeapAt.setA {ga ca na : Nat} (H : HeapAt w b vl (.slice (some ⟨ga, 0, none⟩) na ca) vs h) (i : Nat) (z : Int) :
    HeapAt (w.setCell ⟨ga, i, none⟩ (cA z)) b vl (.slice (some ⟨ga, 0, none⟩) na ca) vs { h with A := h.A.set i z } := by
  have hl := H.apart.a
  have hn : na = h.A.length := by obtain ⟨_, _, he, _⟩ := own_slice H.a; simp at he; omega
  subst hn
  refine ⟨set_block_other H.blk (by simpa [Value.ownBlock, eq_comm] using hl) _, ownsRow_setCell_other H.l (fun e => H.apart.la ga e rfl) _, ?_, ownsRow_setCell_other H.s (H.apart.as_ ga rfl) _, H.apart⟩
  have := (H.a.stored i (cA z)).1
  simpa [List.map_set] using this

theorem HeapAt.setS {gs cs ns : Nat} (H : HeapAt w b vl va (.slice (some ⟨gs, 0, none⟩) ns cs) h) (i : Nat) (z : Nat) :
    HeapAt (w.setCell ⟨gs, i, none⟩ (cS z)) b vl va (.slice (some ⟨gs, 0, none⟩) ns cs) { h with S := h.S.set i z } := by
  have hl := H.apart.s
  have hn : ns = h.S.length := by obtain ⟨_, _, he, _⟩ := own_slice H.s; simp at he; omega
  subst hn
  refine ⟨set_block_other H.blk (by simpa [Value.ownBlock, eq_comm] using hl) _, ownsRow_setCell_other H.l (fun e => H.apart.ls gs e rfl) _, ownsRow_setCell_other H.a (fun e => H.apart.as_ gs e rfl) _, ?_, H.apart⟩
  have := (H.s.stored i (cS z)).1
  simpa [List.map_set] using this

theorem HeapAt.alloc (H : HeapAt w b vl va vs h) (o : Obj) : HeapAt (w.alloc o) b vl va vs h :=
  ⟨alloc_block H.blk o, H.l.alloc o, H.a.alloc o, H.s.alloc o, H.apart⟩

theorem HeapAt.drew (H : HeapAt w b vl va vs h) : HeapAt w.drew b vl va vs h := ⟨H.blk, H.l, H.a, H.s, H.apart⟩

theorem HeapAt.lt (H : HeapAt w b vl va vs h) {k : Nat} (hk : HFoot b vl va vs k) : k < w.heap.size := by
  rcases hk with rfl | hk | hk | hk
  · exact lt_block H.blk
  · exact own_lt H.l hk
  · exact own_lt H.a hk
  · exact own_lt H.s hk

/-- l replaced by a row that append has made. -/
theorem HeapAt.grow (H : HeapAt w b vl va vs h) {w' : World} {vl' : Value} {L' : List Nat} (ho : Only (fun k => vl.ownBlock = some k) w w') (hl : w'.ownsRow 0 3 1 vl' L'.length (L'.map cL))
    (hb : ∀ k, vl'.ownBlock = some k → vl.ownBlock = some k ∨ w.heap.size ≤ k) : HeapAt (w'.setCell ⟨b, 0, none⟩ vl') b vl' va vs { h with L := L' } := by
  have h1 := only_block H.blk ho H.apart.l
  have h2 := own_only H.a ho (fun k hk hk' => H.apart.la k hk' hk)
  have h3 := own_only H.s ho (fun k hk hk' => H.apart.ls k hk' hk)
  have ap : HApart b vl' va vs := by
    refine ⟨?_, H.apart.a, H.apart.s, ?_, ?_, H.apart.as_⟩
    · intro e
      rcases hb _ e with e' | e'
      · exact H.apart.l e'
      · have := lt_block H.blk; omega
    · intro k e ea
      rcases hb _ e with e' | e'
      · exact H.apart.la k e' ea
      · have := own_lt H.a ea; omega
    · intro k e ea
      rcases hb _ e with e' | e'
      · exact H.apart.ls k e' ea
      · have := own_lt H.s ea; omega
  refine ⟨?_, ownsRow_setCell_other hl ap.l _, ownsRow_setCell_other h2 ap.a _, ownsRow_setCell_other h3 ap.s _, ap⟩
  rw [set_block h1]
  rfl

theorem swap_any (H : HeapAt w b vl va vs h) (o : h.Ok) (i k : Nat) (hi : i < h.L.length) (hk : k < h.L.length) :
    Calls Try.prog 19 #[.pointer (some ⟨b, 0, none⟩), .int .i64 i, .int .i64 k] w fun e w' =>
      e = .returned (.tuple #[]) ∧ HeapAt w' b vl va vs (h.swp i k) ∧ Only (HFoot b vl va vs) w w' := by
  obtain ⟨gl, cl, rfl, _, _⟩ := own_some H.l (by omega)
  have hs : 0 < h.A.length := by have := o.lt hi; have := o.len; omega
  obtain ⟨ga, ca, rfl, _, _⟩ := own_some H.a hs
  have hn := o.n
  have hle := o.le
  have hlen := o.len
  have hx := o.lt hi
  have hy := o.lt hk
  have e1 : gl ≠ b := by simpa [Value.ownBlock] using H.apart.l
  have e2 : ga ≠ b := by simpa [Value.ownBlock] using H.apart.a
  have e3 : gl ≠ ga := by have := H.apart.la gl rfl; simpa [Value.ownBlock, eq_comm] using this
  refine (swap_core b gl cl ga ca _ _ i k (h.at1 i) (h.at1 k) (h.A.getD (h.at1 i) 0) (h.A.getD (h.at1 k) 0) w e1 e2 e3 H.c0 H.c1 hi hk (row_cell H.l 0 hi) (row_cell H.l 0 hk)
    (by omega) (by omega) (by omega) H.l.frozenAt H.a.frozenAt (row_cell H.a 0 (by omega)) (row_cell H.a 0 (by omega))).mono ?_
  rintro e w' ⟨rfl, n, rfl⟩
  refine ⟨rfl, ?_, ?_⟩
  · exact ((((H.setL i (h.at1 k)).setL k (h.at1 i)).setA (h.at1 i) k).setA (h.at1 k) i).drewN n
  · have f1 : HFoot b (.slice (some ⟨gl, 0, none⟩) h.L.length cl) (.slice (some ⟨ga, 0, none⟩) h.A.length ca) vs gl := .inr (.inl rfl)
    have f2 : HFoot b (.slice (some ⟨gl, 0, none⟩) h.L.length cl) (.slice (some ⟨ga, 0, none⟩) h.A.length ca) vs ga := .inr (.inr (.inl rfl))
    exact (((((Only.refl _ w).setCell (.inl f1) _).setCell (.inl f1) _).setCell (.inl f2) _).setCell (.inl f2) _).drewN n

end
end Go.Proofs.Ytgbdmembacjooaa

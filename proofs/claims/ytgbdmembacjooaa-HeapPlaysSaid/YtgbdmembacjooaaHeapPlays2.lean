/- HeapPlays: the walk of the law. -/
import Derived.Test.YtgbdmembacjooaaHeapPlays
import Derived.Deep.CutBlock
import Derived.Deep.DeepCutAuto
namespace Go.Proofs.Ytgbdmembacjooaa
open Go.RowKit

theorem infoB : (Try.prog.info? 4).map (fun i => (i.zero, i.size, i.bytes)) = some (some (.bool false), 1, 1) := by kernel_rfl

theorem run_make1 {P : Program} (w : World) (t e : TypeId) (z : Value) (bytes : Nat) (ht : P.underlying t = some (.slice e)) (hi : (P.info? e).map (fun i => (i.zero, i.size, i.bytes)) = some (some z, 1, bytes)) (hz : z.cells = #[z])
    (n : Nat) (hn : n ≤ 1099511627776) (hb : bytes ≤ 64) :
    (Instr.makeSlice t (.int .i64 (n : Int)) (.int .i64 (n : Int))).run P w = .ok (.slice (some ⟨w.heap.size, 0, none⟩) n n) (w.alloc (.cells (madeCells #[z] n) e)) := by
  obtain ⟨i, h1, h2, h3, h4⟩ := info_parts hi
  have hbn : i.bytes * n ≤ 64 * 1099511627776 := by rw [h4]; exact Nat.mul_le_mul hb hn
  have := run_make (P := P) w t e i z ht h1 h2 .i64 .i64 n n (by omega) (Int.le_refl _) (by have h : ((i.bytes * n : Nat) : Int) ≤ 64 * 1099511627776 := by omega
                                                                                            rw [Int.natCast_mul] at h; omega) (by omega)
  rw [hz, h3] at this
  simpa using this

theorem own_made {w : World} {e : TypeId} {z : Value} {n : Nat} (hn : n ≤ maxLen) : (w.alloc (.cells (madeCells #[z] n) e)).ownsRow 0 e 1 (.slice (some ⟨w.heap.size, 0, none⟩) n n) n (List.replicate n z) := by
  have := World.ownsRow_lit (base := 0) (e := e) (size := 1) w (madeCells #[z] n) n (Nat.zero_le _) hn (by simp [size_madeCells])
  rwa [toList_madeCells_one] at this

/-- What the law knows between two operations: the heap, which atoms are in, their scores. -/
structure PlayAt (w0 w : World) (b : Nat) (vl va vs : Value) (gi gs k : Nat) (h : Hp) (In : List Bool) (Sc : List Nat) : Prop where
  H : HeapAt w b vl va vs h
  ok : h.Ok
  ord : h.HOrd
  inl : In.length = k
  scl : Sc.length = k
  ri : w.ownsRow 0 4 1 (.slice (some ⟨gi, 0, none⟩) k k) k (In.map cB)
  rs : w.ownsRow 0 28 1 (.slice (some ⟨gs, 0, none⟩) k k) k (Sc.map cS)
  ne : gi ≠ gs
  newi : w0.heap.size ≤ gi ∧ ¬ HFoot b vl va vs gi
  news : w0.heap.size ≤ gs ∧ ¬ HFoot b vl va vs gs
  newh : ∀ i, HFoot b vl va vs i → w0.heap.size ≤ i
  only : Only (fun _ => False) w0 w

/-- .. and the atoms that are in, and their scores, are those of the heap. -/
structure Agree (k : Nat) (h : Hp) (In : List Bool) (Sc : List Nat) : Prop where
  S : h.S = Sc
  has : ∀ a, a < k → (h.has a ↔ In.getD a false = true)

section
variable {w0 w w' : World} {b : Nat} {vl va vs : Value} {gi gs k : Nat} {h : Hp} {In : List Bool} {Sc : List Nat}

theorem PlayAt.setIn (P : PlayAt w0 w b vl va vs gi gs k h In Sc) (i : Nat) (x : Bool) : PlayAt w0 (w.setCell ⟨gi, i, none⟩ (cB x)) b vl va vs gi gs k h (In.set i x) Sc where
  H := P.H.only (F := fun j => j = gi) ((Only.refl (fun j => j = gi) _).setCell (p := ⟨gi, i, none⟩) (.inl rfl) _) (fun e => P.newi.2 (.inl e.symm)) (fun j hj e => P.newi.2 (.inr (.inl (e ▸ hj)))) (fun j hj e => P.newi.2 (.inr (.inr (.inl (e ▸ hj))))) (fun j hj e => P.newi.2 (.inr (.inr (.inr (e ▸ hj)))))
  ok := P.ok
  ord := P.ord
  inl := by simpa using P.inl
  scl := P.scl
  ri := by have := (P.ri.stored i (cB x)).1; simpa [List.map_set] using this
  rs := ownsRow_setCell_other P.rs (by simp [Value.ownBlock]; exact fun e => P.ne e.symm) _
  ne := P.ne
  newi := P.newi
  news := P.news
  newh := P.newh
  only := P.only.setCell (p := ⟨gi, i, none⟩) (.inr P.newi.1) _

theorem PlayAt.setSc (P : PlayAt w0 w b vl va vs gi gs k h In Sc) (i : Nat) (x : Nat) : PlayAt w0 (w.setCell ⟨gs, i, none⟩ (cS x)) b vl va vs gi gs k h In (Sc.set i x) where
  H := P.H.only (F := fun j => j = gs) ((Only.refl (fun j => j = gs) _).setCell (p := ⟨gs, i, none⟩) (.inl rfl) _) (fun e => P.news.2 (.inl e.symm)) (fun j hj e => P.news.2 (.inr (.inl (e ▸ hj)))) (fun j hj e => P.news.2 (.inr (.inr (.inl (e ▸ hj))))) (fun j hj e => P.news.2 (.inr (.inr (.inr (e ▸ hj)))))
  ok := P.ok
  ord := P.ord
  inl := P.inl
  scl := by simpa using P.scl
  ri := ownsRow_setCell_other P.ri (by simp [Value.ownBlock]; exact P.ne) _
  rs := by have := (P.rs.stored i (cS x)).1; simpa [List.map_set] using this
  ne := P.ne
  newi := P.newi
  news := P.news
  newh := P.newh
  only := P.only.setCell (p := ⟨gs, i, none⟩) (.inr P.news.1) _

theorem PlayAt.alloc (P : PlayAt w0 w b vl va vs gi gs k h In Sc) (o : Obj) : PlayAt w0 (w.alloc o) b vl va vs gi gs k h In Sc :=
  ⟨P.H.alloc o, P.ok, P.ord, P.inl, P.scl, P.ri.alloc o, P.rs.alloc o, P.ne, P.newi, P.news, P.newh, P.only.alloc o⟩
theorem PlayAt.drewN (P : PlayAt w0 w b vl va vs gi gs k h In Sc) (n : Nat) : PlayAt w0 (w.drewN n) b vl va vs gi gs k h In Sc :=
  ⟨P.H.drewN n, P.ok, P.ord, P.inl, P.scl, P.ri, P.rs, P.ne, P.newi, P.news, P.newh, P.only.drewN n⟩
theorem PlayAt.drew (P : PlayAt w0 w b vl va vs gi gs k h In Sc) : PlayAt w0 w.drew b vl va vs gi gs k h In Sc :=
  ⟨P.H.drew, P.ok, P.ord, P.inl, P.scl, P.ri, P.rs, P.ne, P.newi, P.news, P.newh, P.only.drew⟩

/-- after a method of the heap -/
theorem PlayAt.heap {vl' : Value} {h' : Hp} (P : PlayAt w0 w b vl va vs gi gs k h In Sc) (H : HeapAt w' b vl' va vs h') (o : h'.Ok) (ho : h'.HOrd) (O : Only (HFoot b vl va vs) w w') (hF : ∀ i, HFoot b vl' va vs i → HFoot b vl va vs i ∨ w.heap.size ≤ i) :
    PlayAt w0 w' b vl' va vs gi gs k h' In Sc where
  H := H
  ok := o
  ord := ho
  inl := P.inl
  scl := P.scl
  ri := own_only P.ri O (fun j hj => by simp [Value.ownBlock] at hj; subst hj; exact P.newi.2)
  rs := own_only P.rs O (fun j hj => by simp [Value.ownBlock] at hj; subst hj; exact P.news.2)
  ne := P.ne
  newi := ⟨P.newi.1, fun hh => by
    rcases hF _ hh with h1 | h1
    · exact P.newi.2 h1
    · have := own_lt P.ri (k := gi) rfl; omega⟩
  news := ⟨P.news.1, fun hh => by
    rcases hF _ hh with h1 | h1
    · exact P.news.2 h1
    · have := own_lt P.rs (k := gs) rfl; omega⟩
  newh := fun i hi => by
    rcases hF _ hi with h1 | h1
    · exact P.newh i h1
    · have := P.only.size; omega
  only := P.only.trans O fun i hi => .inr (P.newh i hi)

theorem PlayAt.cellI (P : PlayAt w0 w b vl va vs gi gs k h In Sc) {i : Nat} (hi : i < k) : w.cell? ⟨gi, i, none⟩ = some (.bool (In.getD i false)) := row_cell P.ri false (by rw [P.inl]; exact hi)
theorem PlayAt.cellS (P : PlayAt w0 w b vl va vs gi gs k h In Sc) {i : Nat} (hi : i < k) : w.cell? ⟨gs, i, none⟩ = some (.int .u64 (Sc.getD i 0 : Nat)) := row_cell P.rs 0 (by rw [P.scl]; exact hi)

end

theorem Score_at {w : World} {b : Nat} {vl va vs : Value} {h : Hp} (H : HeapAt w b vl va vs h) (o : h.Ok) (a : Nat) (ha : a < h.S.length) (z : Int) (hz : z = a + 1) (r : Nat) (hr : h.sc a = r) : Calls Try.prog 16 #[.pointer (some ⟨b, 0, none⟩), .int .i64 z] w fun e w' =>
    e = .returned (.int .u64 r) ∧ w = w' := by
  subst hr
  exact Score_yes H o a ha z hz

/-- The code inside the block of a number. -/
def subBlock (id : Nat) : Code → Option Code
  | .block i c => if i = id then some c else subBlock id c
  | .seq a b => match subBlock id a with
    | some c => some c
    | none => subBlock id b
  | .loop c => subBlock id c
  | .scope c => subBlock id c
  | .cond _ a b => match subBlock id a with
    | some c => some c
    | none => subBlock id b
  | _ => none

def unLoop : Code → Code
  | .loop c => c
  | c => c

theorem arr_eq (t : Array Value) (n : Nat) (h : t.size = n) : t = ((List.range n).map (fun i => t.getD i undef)).toArray := by
  subst h
  apply Array.ext
  · simp
  · intro i h1 h2
    simp [Array.getD, h1]

noncomputable def playsSwitch : Code := ((Try.f5.body.bind (subBlock 4)).getD .skip)
noncomputable def playsRound : Code := unLoop ((Try.f5.body.bind (subBlock 2)).getD .skip)

def inTo (j k : Nat) : List Bool := List.replicate j true ++ List.replicate (k - j) false
theorem inTo_succ {j k : Nat} (h : j < k) : (inTo j k).set j true = inTo (j + 1) k := by
  simp only [inTo]
  rw [List.set_append_right _ _ (by simp), List.length_replicate, Nat.sub_self, show k - j = (k - (j + 1)) + 1 by omega, List.replicate_succ, List.set_cons_zero, List.replicate_succ']
  simp
theorem inTo_all (k : Nat) : inTo k k = List.replicate k true := by simp [inTo]
theorem inTo_zero (k : Nat) : inTo 0 k = List.replicate k false := by simp [inTo]

theorem agree_new (k : Nat) : Agree k (Hp.new k) (inTo k k) (List.replicate k 0) := by
  refine ⟨rfl, fun a ha => ?_⟩
  rw [Hp.new_has, inTo_all]
  simp [List.getD_eq_getElem?_getD, ha]

theorem play_new1 {w w1 : World} {b : Nat} {vl va vs : Value} {k : Nat} (hk : k ≤ 300) (H : HeapAt w1 b vl va vs (Hp.new k)) (hF : ∀ i, HFoot b vl va vs i → w.heap.size ≤ i) (O : Only (fun _ => False) w w1) :
    PlayAt w ((w1.alloc (.cells (madeCells #[.bool false] k) 4)).alloc (.cells (madeCells #[.int .u64 0] k) 28)) b vl va vs w1.heap.size (w1.heap.size + 1) k (Hp.new k) (inTo 0 k) (List.replicate k 0) where
  H := (H.alloc _).alloc _
  ok := Hp.new_ok k (by omega)
  ord := Hp.new_ord k
  inl := by simp [inTo]
  scl := by simp
  ri := by
    have := (own_made (w := w1) (e := 4) (z := .bool false) (n := k) (by unfold maxLen; omega)).alloc (.cells (madeCells #[.int .u64 0] k) 28)
    simpa [inTo, cB] using this
  rs := by
    have := own_made (w := w1.alloc (.cells (madeCells #[.bool false] k) 4)) (e := 28) (z := .int .u64 0) (n := k) (by unfold maxLen; omega)
    simpa [cS] using this
  ne := by omega
  newi := ⟨O.size, fun hh => by have := H.lt hh; omega⟩
  news := ⟨by have := O.size; omega, fun hh => by have := H.lt hh; omega⟩
  newh := hF
  only := (O.alloc _).alloc _

theorem play_new2 {w w1 : World} {b : Nat} {vl va vs : Value} {k : Nat} (hk : k ≤ 300) (H : HeapAt w1 b vl va vs (Hp.new k)) (hF : ∀ i, HFoot b vl va vs i → w.heap.size ≤ i) (O : Only (fun _ => False) w w1) :
    PlayAt w ((w1.alloc (.cells (madeCells #[.int .u64 0] k) 28)).alloc (.cells (madeCells #[.bool false] k) 4)) b vl va vs (w1.heap.size + 1) w1.heap.size k (Hp.new k) (inTo 0 k) (List.replicate k 0) where
  H := (H.alloc _).alloc _
  ok := Hp.new_ok k (by omega)
  ord := Hp.new_ord k
  inl := by simp [inTo]
  scl := by simp
  rs := by
    have := (own_made (w := w1) (e := 28) (z := .int .u64 0) (n := k) (by unfold maxLen; omega)).alloc (.cells (madeCells #[.bool false] k) 4)
    simpa [cS] using this
  ri := by
    have := own_made (w := w1.alloc (.cells (madeCells #[.int .u64 0] k) 28)) (e := 4) (z := .bool false) (n := k) (by unfold maxLen; omega)
    simpa [inTo, cB] using this
  ne := by omega
  news := ⟨O.size, fun hh => by have := H.lt hh; omega⟩
  newi := ⟨by have := O.size; omega, fun hh => by have := H.lt hh; omega⟩
  newh := hF
  only := (O.alloc _).alloc _

/-- The operation that is played: a block of its own. -/
structure OpAt (w0 w : World) (b : Nat) (vl va vs : Value) (gi gs g : Nat) (kd at_ : Int) (y : Nat) : Prop where
  blk : w.heap[g]? = some (.cells #[.int .i64 kd, .int .i64 at_, .int .u64 (y : Int)] 38 (0, 0))
  new : w0.heap.size ≤ g
  foot : ¬ HFoot b vl va vs g
  ni : g ≠ gi
  ns : g ≠ gs

section
variable {w0 w w' : World} {b : Nat} {vl va vs : Value} {gi gs g : Nat} {kd at_ : Int} {y : Nat}
theorem OpAt.only (o : OpAt w0 w b vl va vs gi gs g kd at_ y) {F : Nat → Prop} (h : Only F w w') (hF : ¬ F g) : OpAt w0 w' b vl va vs gi gs g kd at_ y := ⟨only_block o.blk h hF, o.new, o.foot, o.ni, o.ns⟩
theorem OpAt.c0 (o : OpAt w0 w b vl va vs gi gs g kd at_ y) : w.cell? ⟨g, 0, none⟩ = some (.int .i64 kd) := by rw [cell_block o.blk]; rfl
theorem OpAt.c1 (o : OpAt w0 w b vl va vs gi gs g kd at_ y) : w.cell? ⟨g, 1, none⟩ = some (.int .i64 at_) := by rw [cell_block o.blk]; rfl
theorem OpAt.c2 (o : OpAt w0 w b vl va vs gi gs g kd at_ y) : w.cell? ⟨g, 2, none⟩ = some (.int .u64 (y : Int)) := by rw [cell_block o.blk]; rfl
theorem OpAt.setS (o : OpAt w0 w b vl va vs gi gs g kd at_ y) (i : Nat) (u : Value) : OpAt w0 (w.setCell ⟨gs, i, none⟩ u) b vl va vs gi gs g kd at_ y := ⟨set_block_other o.blk o.ns _, o.new, o.foot, o.ni, o.ns⟩
end

/-- The operations: a slice of structs. -/
def OpsAt (w : World) (ao : Option Addr) (len : Nat) (f : Nat → Int × Int × Nat) : Prop :=
  len ≤ 9223372036854775807 ∧ (0 < len → ∃ b off, ao = some ⟨b, off, none⟩ ∧ b < w.heap.size ∧ ∀ i, i < len → w.cell? ⟨b, off + i * 3, none⟩ = some (.int .i64 (f i).1) ∧ w.cell? ⟨b, off + i * 3 + 1, none⟩ = some (.int .i64 (f i).2.1) ∧ w.cell? ⟨b, off + i * 3 + 2, none⟩ = some (.int .u64 (f i).2.2) ∧ (f i).2.2 < 18446744073709551616)

end Go.Proofs.Ytgbdmembacjooaa

/- Blocks with tags: which part of an object a block belongs to. Rows of one's own under a tag; what a step that touches certain tags alone leaves. -/
import Derived.Test.YtjbfgafkjejdjaaCells
namespace Go.Proofs.Ytjbfgafkjejdjaa
open Go.RowKit

/-- (0, _): nobody's -/
abbrev Tag := Nat → Nat × Nat

/-- the same on the blocks that were there -/
def Agree (w : World) (g g' : Tag) : Prop := ∀ k, k < w.heap.size → g' k = g k

theorem Agree.refl (w : World) (g : Tag) : Agree w g g := fun _ _ => rfl
theorem Agree.trans {w w1 : World} {g g1 g2 : Tag} (h : Agree w g g1) (h1 : Agree w1 g1 g2) (hs : w.heap.size ≤ w1.heap.size) : Agree w g g2 :=
  fun k hk => (h1 k (by omega)).trans (h k hk)

/-- what is not there yet is nobody's -/
def Fresh (w : World) (g : Tag) : Prop := ∀ k, w.heap.size ≤ k → (g k).1 = 0

theorem Fresh.more {w w' : World} {g : Tag} (h : Fresh w g) (hs : w.heap.size ≤ w'.heap.size) : Fresh w' g := fun k hk => h k (by omega)

/-- new blocks get a tag -/
def Tag.put (g : Tag) (lo hi : Nat) (t : Nat × Nat) : Tag := fun k => if lo ≤ k ∧ k < hi then t else g k

theorem Tag.put_old (g : Tag) {lo hi k : Nat} (t : Nat × Nat) (h : k < lo) : Tag.put g lo hi t k = g k := by
  unfold Tag.put; rw [if_neg (by omega)]
theorem Tag.put_new (g : Tag) {lo hi k : Nat} (t : Nat × Nat) (h : lo ≤ k) (h2 : k < hi) : Tag.put g lo hi t k = t := by
  unfold Tag.put; rw [if_pos ⟨h, h2⟩]
theorem Tag.put_far (g : Tag) {lo hi k : Nat} (t : Nat × Nat) (h : hi ≤ k) : Tag.put g lo hi t k = g k := by
  unfold Tag.put; rw [if_neg (by omega)]

theorem Agree.put {w : World} (g : Tag) {lo hi : Nat} (t : Nat × Nat) (h : w.heap.size ≤ lo) : Agree w g (Tag.put g lo hi t) := fun k hk => Tag.put_old g t (by omega)
theorem Fresh.put {w w' : World} {g : Tag} {lo : Nat} (t : Nat × Nat) (h : Fresh w g) (hs : w.heap.size ≤ w'.heap.size) : Fresh w' (Tag.put g lo w'.heap.size t) :=
  fun k hk => by rw [Tag.put_far _ _ hk]; exact h k (by omega)

/-- A row of one's own. -/
structure Row (w : World) (g : Tag) (t : Nat × Nat) (e : TypeId) (v : Value) (xs : List Value) : Prop where
  own : w.ownsRow 0 e 1 v xs.length xs
  tg : ∀ k, v.ownBlock = some k → g k = t

section
variable {w w' : World} {g g' : Tag} {t t' : Nat × Nat} {e : TypeId} {v : Value} {xs : List Value}

theorem Row.keep (h : Row w g t e v xs) {F : Nat → Prop} (ho : Only F w w') (hF : ∀ k, g k = t → ¬ F k) (hg : Agree w g g') : Row w' g' t e v xs :=
  ⟨own_only h.own ho fun k hk => hF k (h.tg k hk), fun k hk => (hg k (own_lt h.own hk)).trans (h.tg k hk)⟩

theorem Row.only (h : Row w g t e v xs) {F : Nat → Prop} (ho : Only F w w') (hF : ∀ k, g k = t → ¬ F k) : Row w' g t e v xs := h.keep ho hF (Agree.refl _ _)

theorem Row.alloc (h : Row w g t e v xs) (o : Obj) : Row (w.alloc o) g t e v xs := h.only ((Only.refl (fun _ => False) _).alloc o) (fun _ _ f => f)
theorem Row.drewN (h : Row w g t e v xs) (n : Nat) : Row (w.drewN n) g t e v xs := h.only ((Only.refl (fun _ => False) _).drewN n) (fun _ _ f => f)
theorem Row.drew (h : Row w g t e v xs) : Row w.drew g t e v xs := h.only ((Only.refl (fun _ => False) _).drew) (fun _ _ f => f)

theorem Row.far (h : Row w g t e v xs) {p : Addr} (hp : g p.block ≠ t) (u : Value) : Row (w.setCell p u) g t e v xs :=
  h.only (F := fun k => k = p.block) (Only.setCell (Only.refl (fun k => k = p.block) w) (p := p) (.inl rfl) u) (fun k hk hF => hp (by rw [← hF]; exact hk))

theorem Row.shape (h : Row w g t e v xs) : ∃ ao cap, v = .slice ao xs.length cap ∧ xs.length ≤ cap ∧ cap ≤ maxLen := own_slice h.own

theorem Row.pos (h : Row w g t e v xs) (hn : 0 < xs.length) : ∃ b cap, v = .slice (some ⟨b, 0, none⟩) xs.length cap ∧ xs.length ≤ cap ∧ cap ≤ maxLen ∧ g b = t ∧ b < w.heap.size := by
  obtain ⟨b, cap, rfl, h1, h2⟩ := own_some h.own hn
  exact ⟨b, cap, rfl, h1, h2, h.tg b rfl, own_lt h.own rfl⟩

theorem Row.len {ao : Option Addr} {n cap : Nat} (h : Row w g t e (.slice ao n cap) xs) : n = xs.length := by
  obtain ⟨_, _, he, _⟩ := h.shape
  simp only [Value.slice.injEq] at he
  exact he.2.1

theorem Row.cell {b n cap : Nat} (h : Row w g t e (.slice (some ⟨b, 0, none⟩) n cap) xs) (d : Value) {i : Nat} (hi : i < xs.length) : w.cell? ⟨b, i, none⟩ = some (xs.getD i d) := by
  have hn := h.len; subst hn
  rw [h.own.cellAt i (by omega)]
  simp [List.getD, List.getElem?_eq_getElem hi]

theorem Row.cellM {α : Type} {f : α → Value} {ys : List α} {b n cap : Nat} (h : Row w g t e (.slice (some ⟨b, 0, none⟩) n cap) (ys.map f)) (d : α) {i : Nat} (hi : i < ys.length) : w.cell? ⟨b, i, none⟩ = some (f (ys.getD i d)) := by
  have hn := h.len; subst hn
  rw [h.own.cellAt i (by simpa using hi)]
  simp [List.getD, List.getElem?_eq_getElem hi]

theorem Row.free {b n cap : Nat} (h : Row w g t e (.slice (some ⟨b, 0, none⟩) n cap) xs) (i : Nat) : w.frozen? ⟨b, i, none⟩ = false := by
  have hn := h.len; subst hn
  exact h.own.frozenAt i

theorem Row.store {b n cap : Nat} (h : Row w g t e (.slice (some ⟨b, 0, none⟩) n cap) xs) (i : Nat) (u : Value) : Row (w.setCell ⟨b, i, none⟩ u) g t e (.slice (some ⟨b, 0, none⟩) n cap) (xs.set i u) := by
  have hn := h.len; subst hn
  refine ⟨?_, h.tg⟩
  have := (h.own.stored i u).1
  simpa using this

theorem Row.nil (w : World) (g : Tag) (t : Nat × Nat) (e : TypeId) : Row w g t e nilS [] := ⟨World.ownsRow_nil _ _ _ _, fun k hk => by simp [Value.ownBlock] at hk⟩

theorem Row.retag (h : Row w g t e v xs) {g' : Tag} {t' : Nat × Nat} (hg : ∀ k, v.ownBlock = some k → g' k = t') : Row w g' t' e v xs := ⟨h.own, hg⟩

theorem Row.ints {ys : List Int} (h : Row w g t 3 v (ys.map cI)) (hr : ∀ x ∈ ys, InI64 x) : Ints w v ys := Ints.of_own (by simpa using h.own) hr

theorem Row.blk (h : Row w g t e v xs) : ∀ k, Value.blk v = some k → g k = t := by
  intro k hk
  obtain ⟨ao, cap, rfl, h1, h2⟩ := h.shape
  rcases h.own.2 with ⟨h', _⟩ | ⟨g', cap', cur, h', hb, hg, h1, h2, h3, htake⟩
  · rw [h'] at hk; simp [Value.blk] at hk
  · rw [h'] at hk
    simp [Value.blk] at hk
    subst hk
    exact h.tg _ (by rw [h']; rfl)

/-- What append hands back: the row under the same tag, the new blocks tagged. -/
theorem Row.app {P : Program} {u : Value} {ops : Array Oper} {rest : List Oper} {o : Oper} {a : Act} {Q : Exit → Act → World → Prop} {tt : TypeId} {bytes : Nat} (T : SlT P tt e 1 bytes)
    (hgd : o.guard = none) (s x : Operand)
    (ho : o.op = .call { callee := .builtin .append, args := #[s, x], argTypes := #[tt, tt] })
    {gb : Nat} (hs : a.eval s = v) (hx : a.eval x = .slice (some ⟨gb, 0, none⟩) 1 1) (hc : w.cell? ⟨gb, 0, none⟩ = some u) (hu : u.oneCell' = true) (h : Row w g t e v xs)
    (h63 : xs.length + 1 ≤ 1099511627776) (hbytes : bytes ≤ 64)
    (hK : ∀ v' w', Row w' (Tag.put g w.heap.size w'.heap.size t) t e v' (xs ++ [u]) → Only (fun k => g k = t) w w' → wpList P ops Q rest (a.put o.dst v') w') :
    wpList P ops Q (o :: rest) a w := by
  refine wpA1 T hgd s x ho hs hx hc hu h.own h63 hbytes ?_
  intro v' w' r1 r2 r3
  refine hK v' w' ⟨by simpa using r1, fun k hk => ?_⟩ (r2.mono fun k hk => h.tg k hk)
  obtain ⟨b, cap, rfl, _, _, hh⟩ := r3
  simp [Value.ownBlock] at hk
  subst hk
  rcases hh with hh | hh
  · rw [Tag.put_old _ _ (own_lt h.own hh)]; exact h.tg _ hh
  · exact Tag.put_new _ _ hh (own_lt r1 rfl)

/-- .. as one step of a region that draws its order. -/
theorem Row.step {P : Program} {u : Value} {ops : Array Oper} {o : Oper} {a : Act} {K : Act → World → Prop} {Q : Exit → Act → World → Prop} {E : Prop} {tt : TypeId} {bytes : Nat} (T : SlT P tt e 1 bytes)
    (hgd : o.guard = none) (s x : Operand)
    (ho : o.op = .call { callee := .builtin .append, args := #[s, x], argTypes := #[tt, tt] })
    {gb : Nat} (hs : a.eval s = v) (hx : a.eval x = .slice (some ⟨gb, 0, none⟩) 1 1) (hc : w.cell? ⟨gb, 0, none⟩ = some u) (hu : u.oneCell' = true) (h : Row w g t e v xs)
    (h63 : xs.length + 1 ≤ 1099511627776) (hbytes : bytes ≤ 64)
    (hK : ∀ bb cap w', Row w' (Tag.put g w.heap.size w'.heap.size t) t e (.slice (some ⟨bb, 0, none⟩) (xs.length + 1) cap) (xs ++ [u]) → Only (fun k => g k = t) w w' → K (a.put o.dst (.slice (some ⟨bb, 0, none⟩) (xs.length + 1) cap)) w') :
    if Region.wanted o (yielded ops a.tmps) = true then Oper.wp P o a w K Q else E := by
  rw [if_pos (by simp [Region.wanted, hgd])]
  obtain ⟨v', w', hr, r1, r2, r3, r4⟩ := run_append_x (P := P) (ty := o.type) w T v xs.length xs h.own ⟨gb, 0, none⟩ 1 1 [u] rfl (by
    intro j x hj
    match j, hj with
    | 0, hj =>
      simp at hj; subst hj
      simpa [Addr.add] using hc) (by intro x hxm; simp at hxm; subst hxm; exact hu) (by unfold maxLen; omega) (by
    have : (xs.length + 1) * bytes ≤ 1099511627776 * 64 := Nat.mul_le_mul h63 hbytes
    omega)
  unfold Oper.wp execOp
  simp only [ho, resolve, invoke, builtin, Sem.run_bind, Sem.run_pure, Result.andThen_ok, List.map_toArray, List.map_cons, List.map_nil, hs, hx, hr]
  obtain ⟨bb, cap, rfl, hc1, hc2⟩ := own_some r1 (by omega)
  refine hK bb cap w' ⟨by simpa using r1, fun k hk => ?_⟩ (((Only.refl _ w).grown r2 fun k hk => .inl hk).mono fun k hk => h.tg k hk)
  simp [Value.ownBlock] at hk
  subst hk
  rcases r3 bb rfl with hh | hh
  · rw [Tag.put_old _ _ (own_lt h.own hh)]; exact h.tg _ hh
  · exact Tag.put_new _ _ hh (own_lt r1 rfl)

end

/-- 'make([]T, n)' as one step of a region that draws its order. -/
theorem stepM {P : Program} {w : World} {ops : Array Oper} {o : Oper} {a : Act} {K : Act → World → Prop} {Q : Exit → Act → World → Prop} {E : Prop} {t e : TypeId} {bytes : Nat} {z : Value}
    (hu : P.underlying t = some (.slice e)) (hi : (P.info? e).map (fun i => (i.zero, i.size, i.bytes)) = some (some z, 1, bytes)) (hz : z.cells = #[z])
    (hg : o.guard = none) (l c : Operand) (hop : o.op = Op.makeSlice t l c) (n : Nat) {kl kc : IntKind} {L C : Int} (hl : a.eval l = .int kl L) (hc : a.eval c = .int kc C) (hL : L = (n : Int)) (hC : C = (n : Int))
    (hn : n ≤ 1099511627776) (hb : bytes ≤ 64)
    (hK : ∀ w', w'.ownsRow 0 e 1 (.slice (some ⟨w.heap.size, 0, none⟩) n n) n (List.replicate n z) → Only (fun _ => False) w w' → w.heap.size < w'.heap.size → K (a.put o.dst (.slice (some ⟨w.heap.size, 0, none⟩) n n)) w') :
    if Region.wanted o (yielded ops a.tmps) = true then Oper.wp P o a w K Q else E := by
  rw [if_pos (by simp [Region.wanted, hg])]
  obtain ⟨i, h1, h2, h3, h4⟩ := info_parts hi
  have hbn : i.bytes * n ≤ 281474976710656 := by
    rw [h4]
    have : bytes * n ≤ 64 * 1099511627776 := Nat.mul_le_mul hb hn
    omega
  obtain ⟨w', hrun, r1, r2⟩ := run_make_full (P := P) w 0 t e i z 1 hu h1 h2 h3 kl kc n hbn (by unfold maxLen; omega) (Nat.zero_le _)
  subst hL
  subst hC
  unfold Oper.wp
  simp [execOp, hop, hl, hc, hrun, Result.andThen]
  rw [hz, toList_madeCells_one, Nat.mul_one] at r1
  exact hK w' r1 ((Only.refl _ w).grown r2 fun k hk => by cases hk) (own_lt r1 rfl)

theorem cell_keep {w w' : World} {F : Nat → Prop} {b i : Nat} {u : Value} (h : w.cell? ⟨b, i, none⟩ = some u) (ho : Only F w w') (hb : ¬ F b) : w'.cell? ⟨b, i, none⟩ = some u := by
  rw [World.cell?_of_block (w := w) (ho.block b (World.block_lt_of_cell? w _ h) hb)]; exact h
theorem free_keep {w w' : World} {F : Nat → Prop} {b i : Nat} {u : Value} (h : w.cell? ⟨b, i, none⟩ = some u) (hf : w.frozen? ⟨b, i, none⟩ = false) (ho : Only F w w') (hb : ¬ F b) : w'.frozen? ⟨b, i, none⟩ = false := by
  have := ho.block b (World.block_lt_of_cell? w _ h) hb
  unfold World.frozen? at *
  rw [this]; exact hf

theorem cell_newE (w : World) (u : Value) (t : TypeId) (n : Nat) (h : n = w.heap.size) : (w.alloc (.cells #[u] t)).cell? ⟨n, 0, none⟩ = some u := by subst h; simp

/-- only what is somebody's was touched -/
abbrev Mine (g : Tag) : Nat → Prop := fun k => (g k).1 ≠ 0

theorem Only.mine {g : Tag} {w w1 w2 : World} {g1 : Tag} (h : Only (Mine g) w w1) (hg : Agree w g g1) (h1 : Only (Mine g1) w1 w2) : Only (Mine g) w w2 :=
  h.trans h1 fun i hi => by
    by_cases c : i < w.heap.size
    · left; unfold Mine at *; rw [hg i c] at hi; exact hi
    · right; omega

theorem Only.tags {T : Nat → Prop} {g : Tag} {w w1 w2 : World} {g1 : Tag} (h : Only (fun k => T (g k).1) w w1) (hg : Agree w g g1) (h1 : Only (fun k => T (g1 k).1) w1 w2) : Only (fun k => T (g k).1) w w2 :=
  h.trans h1 fun i hi => by
    by_cases c : i < w.heap.size
    · left; rw [hg i c] at hi; exact hi
    · right; omega

/-- whose a slice that is read is -/
def Tagged (g : Tag) (t : Nat × Nat) (v : Value) (xs : List Int) : Prop := 0 < xs.length → ∀ k, Value.blk v = some k → g k = t
def NotMine (g : Tag) (v : Value) (xs : List Int) : Prop := 0 < xs.length → ∀ k, Value.blk v = some k → (g k).1 = 0

theorem Ints.only' {w w' : World} {v : Value} {xs : List Int} {F : Nat → Prop} (h : Ints w v xs) (ho : Only F w w') (hF : 0 < xs.length → ∀ b, Value.blk v = some b → ¬ F b) : Ints w' v xs := by
  refine ⟨h.shape, fun ao len cap hv hp => ?_, h.range, h.nil⟩
  obtain ⟨b, off, rfl, hb, hc⟩ := h.cells ao len cap hv hp
  refine ⟨b, off, rfl, Nat.lt_of_lt_of_le hb ho.size, fun i hi => ?_⟩
  rw [World.cell?_of_block (w := w) (ho.block b hb (hF hp b (by rw [hv]; rfl)))]
  exact hc i hi

theorem Ints.mine {w w' : World} {g : Tag} {v : Value} {xs : List Int} (h : Ints w v xs) (hn : NotMine g v xs) (ho : Only (Mine g) w w') : Ints w' v xs :=
  h.only' ho fun hp b hb hF => hF (hn hp b hb)

theorem Ints.keepT {w w' : World} {g : Tag} {t : Nat × Nat} {v : Value} {xs : List Int} {F : Nat → Prop} (h : Ints w v xs) (ht : Tagged g t v xs) (ho : Only F w w') (hF : ∀ k, g k = t → ¬ F k) : Ints w' v xs :=
  h.only' ho fun hp b hb => hF b (ht hp b hb)

theorem Ints.lt {w : World} {v : Value} {xs : List Int} (h : Ints w v xs) (hp : 0 < xs.length) {k : Nat} (hk : Value.blk v = some k) : k < w.heap.size := by
  obtain ⟨ao, cap, rfl, _, _⟩ := h.shape
  obtain ⟨b, off, rfl, hb, _⟩ := h.cells _ _ _ rfl hp
  simp [Value.blk] at hk
  omega

theorem Tagged.agree {w : World} {g g' : Tag} {t : Nat × Nat} {v : Value} {xs : List Int} (ht : Tagged g t v xs) (h : Ints w v xs) (hg : Agree w g g') : Tagged g' t v xs :=
  fun hp k hk => (hg k (h.lt hp hk)).trans (ht hp k hk)

theorem NotMine.agree {w : World} {g g' : Tag} {v : Value} {xs : List Int} (ht : NotMine g v xs) (h : Ints w v xs) (hg : Agree w g g') : NotMine g' v xs :=
  fun hp k hk => by rw [hg k (h.lt hp hk)]; exact ht hp k hk

/-- slices of slices -/
theorem AllInts.keepT {w w' : World} {us : List Value} {css : List (List Int)} (h : AllInts w us css) {g : Tag} {t : Nat × Nat} {F : Nat → Prop} (ht : ∀ i, i < css.length → Tagged g t (us.getD i nilS) (css.getD i []))
    (ho : Only F w w') (hF : ∀ k, g k = t → ¬ F k) : AllInts w' us css := ⟨h.1, fun i hi => (h.2 i hi).keepT (ht i hi) ho hF⟩

end Go.Proofs.Ytjbfgafkjejdjaa

/- RowZ RowO, in one text. -/
import Derived.Test.YtjedgdamommgeaaGreatBase
import Derived.Test.YtjedgdamommgeaaGreatRegs
set_option linter.unusedVariables false
namespace Go.Proofs.YtjedgdamommgeaaGreat
open Go.RowKit
structure RowZ (w : World) (g : Tag) (t : Nat × Nat) (e : TypeId) (size : Nat) (v : Value) (n : Nat) (xs : List Value) : Prop where
 own : w.ownsRow 0 e size v n xs
 tg : ∀ k, v.ownBlock = some k → g k = t
section
variable {w w' : World} {g g' : Tag} {t : Nat × Nat} {e : TypeId} {size n : Nat} {v : Value} {xs : List Value}
theorem RowZ.keep (h : RowZ w g t e size v n xs) {F : Nat → Prop} (ho : Only F w w') (hF : ∀ k, g k = t → ¬ F k) (hg : Agree w g g') : RowZ w' g' t e size v n xs :=
 ⟨own_only h.own ho fun k hk => hF k (h.tg k hk), fun k hk => (hg k (own_lt h.own hk)).trans (h.tg k hk)⟩
theorem RowZ.only (h : RowZ w g t e size v n xs) {F : Nat → Prop} (ho : Only F w w') (hF : ∀ k, g k = t → ¬ F k) : RowZ w' g t e size v n xs := h.keep ho hF (Agree.refl _ _)
theorem RowZ.alloc (h : RowZ w g t e size v n xs) (o : Obj) : RowZ (w.alloc o) g t e size v n xs := h.only ((Only.refl (fun _ => False) _).alloc o) (fun _ _ f => f)
theorem RowZ.drew (h : RowZ w g t e size v n xs) : RowZ w.drew g t e size v n xs := h.only ((Only.refl (fun _ => False) _).drew) (fun _ _ f => f)
theorem RowZ.drewN (h : RowZ w g t e size v n xs) (m : Nat) : RowZ (w.drewN m) g t e size v n xs := h.only ((Only.refl (fun _ => False) _).drewN m) (fun _ _ f => f)
theorem RowZ.far (h : RowZ w g t e size v n xs) {p : Addr} (hp : g p.block ≠ t) (u : Value) : RowZ (w.setCell p u) g t e size v n xs :=
 h.only (F := fun k => k = p.block) (Only.setCell (Only.refl (fun k => k = p.block) w) (p := p) (.inl rfl) u) (fun k hk hF => hp (by rw [← hF]; exact hk))
theorem RowZ.step {P : Program} {us : List Value} {ops : Array Oper} {o : Oper} {a : Act} {K : Act → World → Prop} {Q : Exit → Act → World → Prop} {E : Prop} {tt : TypeId} {bytes : Nat} (T : SlT P tt e size bytes)
  (hgd : o.guard = none) (s x : Operand)
  (ho : o.op = .call { callee := .builtin .append, args := #[s, x], argTypes := #[tt, tt] })
  {gb : Nat} (hs : a.eval s = v) (hx : a.eval x = .slice (some ⟨gb, 0, none⟩) 1 1) (hul : us.length = size) (hc : ∀ j, j < us.length → w.cell? ⟨gb, j, none⟩ = us[j]?) (hu : ∀ u ∈ us, u.oneCell' = true) (h : RowZ w g t e size v n xs)
  (h63 : n + 1 ≤ 1099511627776) (hbytes : bytes ≤ 64)
  (hK : ∀ bb cap w', RowZ w' (Tag.put g w.heap.size w'.heap.size t) t e size (.slice (some ⟨bb, 0, none⟩) (n + 1) cap) (n + 1) (xs ++ us) → Only (fun k => g k = t) w w' → K (a.put o.dst (.slice (some ⟨bb, 0, none⟩) (n + 1) cap)) w') :
  if Region.wanted o (yielded ops a.tmps) = true then Oper.wp P o a w K Q else E := by
 rw [if_pos (by simp [Region.wanted, hgd])]
 obtain ⟨v', w', hr, r1, r2, r3, r4⟩ := run_append_x (P := P) (ty := o.type) w T v n xs h.own ⟨gb, 0, none⟩ 1 1 us (by omega) (by
  intro j x hj
  have hj' := (List.getElem?_eq_some_iff.1 hj).1
  have := hc j hj'
  rw [Go.WideShapes.add_plain, Nat.zero_add, this]; exact hj) hu (by unfold maxLen; omega) (by
  have : (n + 1) * bytes ≤ 1099511627776 * 64 := Nat.mul_le_mul h63 hbytes
  omega)
 unfold Oper.wp execOp
 simp only [ho, resolve, invoke, builtin, Sem.run_bind, Sem.run_pure, Result.andThen_ok, List.map_toArray, List.map_cons, List.map_nil, hs, hx, hr]
 obtain ⟨bb, cap, rfl, hc1, hc2⟩ := own_some r1 (by omega)
 refine hK bb cap w' ⟨r1, fun k hk => ?_⟩ (((Only.refl _ w).grown r2 fun k hk => .inl hk).mono fun k hk => h.tg k hk)
 simp [Value.ownBlock] at hk
 subst hk
 rcases r3 bb rfl with hh | hh
 ·rw [Tag.put_old _ _ (own_lt h.own hh)]; exact h.tg _ hh
 ·exact Tag.put_new _ _ hh (own_lt r1 rfl)
end
structure RowO (w : World) (g : Tag) (t : Nat × Nat) (e : TypeId) (v : Value) (xs : List Value) : Prop where
 form : (v = .slice none 0 0 ∧ xs = []) ∨ ∃ b o cap, ∃ cur : Array Value, v = .slice (some ⟨b, o, none⟩) xs.length cap ∧ w.heap[b]? = some (.cells cur e (0, 0)) ∧ xs.length ≤ cap ∧ cap ≤ maxLen ∧ o + cap ≤ cur.size ∧ (cur.toList.drop o).take xs.length = xs
 tg : ∀ k, Value.blk v = some k → g k = t
section
variable {w w' : World} {g g' : Tag} {t : Nat × Nat} {e : TypeId} {v : Value} {xs : List Value}
theorem RowO.lt (h : RowO w g t e v xs) : ∀ k, Value.blk v = some k → k < w.heap.size := by
 intro k hk
 rcases h.form with ⟨rfl, _⟩ | ⟨b, o, cap, cur, rfl, hb, _⟩
 ·simp [Value.blk] at hk
 ·simp [Value.blk] at hk; subst hk; exact lt_block hb
theorem RowO.keep (h : RowO w g t e v xs) {F : Nat → Prop} (ho : Only F w w') (hF : ∀ k, g k = t → ¬ F k) (hg : Agree w g g') : RowO w' g' t e v xs := by
 refine ⟨?_, fun k hk => (hg k (h.lt k hk)).trans (h.tg k hk)⟩
 rcases h.form with h1 | ⟨b, o, cap, cur, rfl, hb, h1⟩
 ·exact .inl h1
 ·exact .inr ⟨b, o, cap, cur, rfl, only_block hb ho (hF b (h.tg b rfl)), h1⟩
theorem RowO.only (h : RowO w g t e v xs) {F : Nat → Prop} (ho : Only F w w') (hF : ∀ k, g k = t → ¬ F k) : RowO w' g t e v xs := h.keep ho hF (Agree.refl _ _)
theorem RowO.alloc (h : RowO w g t e v xs) (o : Obj) : RowO (w.alloc o) g t e v xs := h.only ((Only.refl (fun _ => False) _).alloc o) (fun _ _ f => f)
theorem RowO.drew (h : RowO w g t e v xs) : RowO w.drew g t e v xs := h.only ((Only.refl (fun _ => False) _).drew) (fun _ _ f => f)
theorem RowO.far (h : RowO w g t e v xs) {p : Addr} (hp : g p.block ≠ t) (u : Value) : RowO (w.setCell p u) g t e v xs :=
 h.only (F := fun k => k = p.block) (Only.setCell (Only.refl (fun k => k = p.block) w) (p := p) (.inl rfl) u) (fun k hk hF => hp (by rw [← hF]; exact hk))
theorem RowO.shape (h : RowO w g t e v xs) : ∃ ao cap, v = .slice ao xs.length cap ∧ xs.length ≤ cap ∧ cap ≤ maxLen := by
 rcases h.form with ⟨rfl, rfl⟩ | ⟨b, o, cap, cur, rfl, hb, h1, h2, _⟩
 ·exact ⟨none, 0, rfl, Nat.le_refl _, by unfold maxLen; omega⟩
 ·exact ⟨_, cap, rfl, h1, h2⟩
theorem RowO.nil (w : World) (g : Tag) (t : Nat × Nat) (e : TypeId) : RowO w g t e nilS [] := ⟨.inl ⟨rfl, rfl⟩, fun k hk => by simp [Value.blk] at hk⟩
theorem RowO.of_own {n : Nat} (h : w.ownsRow 0 e 1 v n xs) (htg : ∀ k, v.ownBlock = some k → g k = t) : RowO w g t e v xs := by
 have hn : xs.length = n := by simpa using h.1
 subst hn
 rcases h.2 with ⟨h1, h2⟩ | ⟨b, cap, cur, rfl, _, hb, h1, h2, h3, h4⟩
 ·refine ⟨.inl ⟨h1, List.eq_nil_of_length_eq_zero h2⟩, fun k hk => ?_⟩
  rw [h1] at hk; simp [Value.blk] at hk
 ·refine ⟨.inr ⟨b, 0, cap, cur, rfl, hb, h1, h2, by omega, by simpa using h4⟩, fun k hk => ?_⟩
  simp [Value.blk] at hk
  exact htg k (by rw [← hk]; rfl)
theorem RowO.head {x : Value} {ys : List Value} (h : RowO w g t e v (x :: ys)) : ∃ b o cap, v = .slice (some ⟨b, o, none⟩) (ys.length + 1) cap ∧ ys.length + 1 ≤ cap ∧ cap ≤ maxLen ∧ w.cell? ⟨b, o, none⟩ = some x ∧ g b = t ∧ RowO w g t e (.slice (if cap = 1 then some ⟨b, o, none⟩ else some ⟨b, o + 1, none⟩) ys.length (cap - 1)) ys := by
 rcases h.form with ⟨_, h2⟩ | ⟨b, o, cap, cur, rfl, hb, h1, h2, h3, h4⟩
 ·simp at h2
 ·simp only [List.length_cons] at h1 h4 ⊢
  refine ⟨b, o, cap, rfl, h1, h2, ?_, h.tg b rfl, ?_⟩
  ·rw [cell_block hb]
   have h5 : (((cur.toList.drop o).take (ys.length + 1)))[0]? = some x := by rw [h4]; rfl
   rw [List.getElem?_take_of_lt (by omega), List.getElem?_drop] at h5
   simpa using h5
  ·by_cases hc : cap = 1
   ·have hy : ys = [] := List.eq_nil_of_length_eq_zero (by omega)
    subst hy
    rw [if_pos hc]
    exact ⟨.inr ⟨b, o, cap - 1, cur, rfl, hb, by simp, by omega, by omega, by simp⟩, fun k hk => h.tg k hk⟩
   ·rw [if_neg hc]
    refine ⟨.inr ⟨b, o + 1, cap - 1, cur, rfl, hb, by omega, by omega, by omega, ?_⟩, fun k hk => h.tg k hk⟩
    have h5 : ((cur.toList.drop o).take (ys.length + 1)).drop 1 = ys := by rw [h4]; rfl
    rw [List.drop_take, List.drop_drop] at h5
    simpa using h5
theorem run_append_o {P : Program} {tt ty : TypeId} {bytes : Nat} (T : SlT P tt e 1 bytes) (h : RowO w g t e v xs) (a : Addr) (m c : Nat) (news : List Value) (hl : news.length = m)
  (hnews : ∀ j u, news[j]? = some u → w.cell? (a.add j) = some u) (h1 : ∀ u ∈ news, u.oneCell' = true) (h63 : xs.length + m ≤ 1099511627776) (hbytes : bytes ≤ 64) :
  ∃ v' w', (Builtin.append_ #[tt, tt] ty #[v, .slice (some a) m c]).run P w = .ok v' w' ∧ RowO w' (Tag.put g w.heap.size w'.heap.size t) t e v' (xs ++ news) ∧ Only (fun k => g k = t) w w' := by
 have hbb : (xs.length + m) * bytes ≤ 140737488355328 := by
  have : (xs.length + m) * bytes ≤ 1099511627776 * 64 := Nat.mul_le_mul h63 hbytes
  omega
 rcases h.form with ⟨rfl, rfl⟩ | ⟨b, o, cap, cur, rfl, hb, k1, k2, k3, k4⟩
 ·obtain ⟨v', w', hr, r1, r2, r3, r4⟩ := run_append_x (P := P) (ty := ty) w T (.slice none 0 0) 0 [] (World.ownsRow_nil _ _ _ _) a m c news (by omega) hnews h1 (by simp at h63; unfold maxLen; omega) (by simpa using hbb)
  refine ⟨v', w', hr, RowO.of_own r1 (fun k hk => ?_), (Only.refl _ w).grown r2 fun k hk => by simp [Value.ownBlock] at hk⟩
  rcases r3 k hk with hh | hh
  ·simp [Value.ownBlock] at hh
  ·exact Tag.put_new _ _ hh (own_lt r1 hk)
 ·obtain ⟨i, z, h2, h3, h4, h5, h6⟩ := T.info
  have htb : g b = t := h.tg b rfl
  by_cases hroom : xs.length + m ≤ cap
  ·have hf := run_firstCells_some (P := P) w i.size m a m c news (by rw [h4]; omega) hnews
   have hst := run_storeCells_at P b (o + xs.length) e news 0 cur w hb (by omega) h1
   simp only [Nat.add_zero] at hst
   refine ⟨.slice (some ⟨b, o, none⟩) (xs.length + m) cap, w.setRow b (cur.toList.take (o + xs.length) ++ news ++ cur.toList.drop (o + xs.length + news.length)).toArray, ?_, ⟨.inr ⟨b, o, cap, _, ?_, setRow_heap w b cur _ e _ hb, ?_, k2, ?_, ?_⟩, ?_⟩, ?_⟩
   ·rw [h4] at hf
    simp [Builtin.append_, run_underlying T.und, sizeOf, typeInfo, h2, h4, Builtin.lenOf, hroom, hf, Addr.add_mid, hst]
   ·simp [hl]
   ·simp; omega
   ·simp; omega
   ·have e1 : (cur.toList.take (o + xs.length)).drop o = xs := by
     rw [List.drop_take, show o + xs.length - o = xs.length by omega]; exact k4
    have e2 : (cur.toList.take (o + xs.length) ++ news ++ cur.toList.drop (o + xs.length + news.length)).drop o = xs ++ news ++ cur.toList.drop (o + xs.length + news.length) := by
     rw [List.append_assoc, List.drop_append_of_le_length (by simp; omega), e1, List.append_assoc]
    simp only [List.length_append]
    rw [e2, ← List.length_append, List.take_left]
   ·intro k hk
    simp [Value.blk] at hk
    subst hk
    rw [Tag.put_old _ _ (lt_block hb)]; exact htb
   ·exact ⟨rfl, rfl, rfl, by simp, fun k _ hk => setRow_other w b k _ (fun e => hk (by rw [e]; exact htb))⟩
  ·have holds : ∀ j u, xs[j]? = some u → w.cell? ((⟨b, o, none⟩ : Addr).add j) = some u := by
    intro j u hj
    have hj' := (List.getElem?_eq_some_iff.1 hj).1
    rw [Addr.add_mid, cell_block hb]
    have h7 : ((cur.toList.drop o).take xs.length)[j]? = some u := by rw [k4]; exact hj
    rw [List.getElem?_take_of_lt hj', List.getElem?_drop] at h7
    simpa using h7
   obtain ⟨v', w', hr, r1, r2⟩ := run_append_arg_grows (P := P) w tt ty e i z 1 bytes T.und h2 h3 h4 h5 h6 T.pos ⟨b, o, none⟩ xs.length cap xs (by omega) holds a m c news (by omega) hnews (by omega) (by unfold maxLen; omega) hbb
   have r1' : w'.ownsRow 0 e 1 v' (xs.length + m) (xs ++ news) := ⟨r1.1, by
    rcases r1.2 with h | ⟨g', cap', cur', he, hg', h⟩
    ·exact .inl h
    ·exact .inr ⟨g', cap', cur', he, Nat.zero_le _, h⟩⟩
   refine ⟨v', w', hr, RowO.of_own r1' (fun k hk => ?_), (Only.refl _ w).grown r2 fun k hk => by cases hk⟩
   exact Tag.put_new _ _ (r1.lt k hk).1 (r1.lt k hk).2
theorem RowO.step {P : Program} {ops : Array Oper} {o : Oper} {a : Act} {K : Act → World → Prop} {Q : Exit → Act → World → Prop} {E : Prop} {tt : TypeId} {bytes : Nat} (T : SlT P tt e 1 bytes)
  (hgd : o.guard = none) (s x : Operand)
  (ho : o.op = .call { callee := .builtin .append, args := #[s, x], argTypes := #[tt, tt] })
  {ao : Option Addr} {m c : Nat} {news : List Value} (hs : a.eval s = v) (hx : a.eval x = .slice ao m c) (hl : news.length = m) (hnone : ao = none → m = 0 ∧ c = 0) (hnews : ∀ ad, ao = some ad → ∀ j u, news[j]? = some u → w.cell? (ad.add j) = some u) (h1 : ∀ u ∈ news, u.oneCell' = true) (h : RowO w g t e v xs)
  (h63 : xs.length + m ≤ 1099511627776) (hbytes : bytes ≤ 64)
  (hK : ∀ ao' cap w', RowO w' (Tag.put g w.heap.size w'.heap.size t) t e (.slice ao' (xs.length + m) cap) (xs ++ news) → Only (fun k => g k = t) w w' → K (a.put o.dst (.slice ao' (xs.length + m) cap)) w') :
  if Region.wanted o (yielded ops a.tmps) = true then Oper.wp P o a w K Q else E := by
 rw [if_pos (by simp [Region.wanted, hgd])]
 cases ao with
 | none =>
  obtain ⟨rfl, rfl⟩ := hnone rfl
  have hn : news = [] := List.eq_nil_of_length_eq_zero hl
  subst hn
  obtain ⟨i, z, h2, h3, h4, h5, h6⟩ := T.info
  obtain ⟨ao', cap', rfl, hc, hm⟩ := h.shape
  have hr : (Builtin.append_ #[tt, tt] o.type #[.slice ao' xs.length cap', .slice none 0 0]).run P w = .ok (.slice ao' xs.length cap') w := by
   cases ao' with
   | none => simp [Builtin.append_, run_underlying T.und, sizeOf, typeInfo, h2, Builtin.lenOf, Builtin.firstCells, hc]
   | some ad => simp [Builtin.append_, run_underlying T.und, sizeOf, typeInfo, h2, Builtin.lenOf, Builtin.firstCells, hc, storeCells]
  unfold Oper.wp execOp
  simp only [ho, resolve, invoke, builtin, Sem.run_bind, Sem.run_pure, Result.andThen_ok, List.map_toArray, List.map_cons, List.map_nil, hs, hx, hr]
  refine hK ao' cap' w ?_ (Only.refl _ _)
  have e : Tag.put g w.heap.size w.heap.size t = g := by
   funext k; unfold Tag.put; rw [if_neg (by omega)]
  rw [e]
  simpa using h
 | some ad =>
  obtain ⟨v', w', hr, r1, r2⟩ := run_append_o (P := P) (ty := o.type) T h ad m c news hl (hnews ad rfl) h1 h63 hbytes
  unfold Oper.wp execOp
  simp only [ho, resolve, invoke, builtin, Sem.run_bind, Sem.run_pure, Result.andThen_ok, List.map_toArray, List.map_cons, List.map_nil, hs, hx, hr]
  obtain ⟨ao', cap', rfl, hc, hm⟩ := r1.shape
  have hlen : (xs ++ news).length = xs.length + m := by simp [hl]
  rw [hlen] at r1 ⊢
  exact hK ao' cap' w' r1 r2
end
end Go.Proofs.YtjedgdamommgeaaGreat

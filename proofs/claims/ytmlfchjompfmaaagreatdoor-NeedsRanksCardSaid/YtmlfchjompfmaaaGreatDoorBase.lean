/- Mem Ints Mem2 Cells Tags, in one text. -/
import Derived.WalkKit
import Derived.ProofKit
import Derived.OpenShut
import Derived.Deep.QuietTactic
import Derived.BigQuiet
import Derived.Lib.Hide
import Derived.WalkSpells
import Derived.Test.YtmlfchjompfmaaaGreatDoorRows
set_option linter.unusedVariables false
namespace Go.Proofs.YtmlfchjompfmaaaGreatDoor
open Go.RowKit
structure Only (F : Nat → Prop) (w w' : World) : Prop where
 os : w'.os = w.os
 tape : w'.tape = w.tape
 output : w'.output = w.output
 size : w.heap.size ≤ w'.heap.size
 block : ∀ k, k < w.heap.size → ¬ F k → w'.heap[k]? = w.heap[k]?
theorem Only.refl (F : Nat → Prop) (w : World) : Only F w w := ⟨rfl, rfl, rfl, Nat.le_refl _, fun _ _ _ => rfl⟩
theorem Only.trans {F G : Nat → Prop} {a b c : World} (h : Only F a b) (k : Only G b c) (hG : ∀ i, G i → F i ∨ a.heap.size ≤ i) : Only F a c :=
 ⟨k.os.trans h.os, k.tape.trans h.tape, k.output.trans h.output, Nat.le_trans h.size k.size, fun i hi hF =>
  (k.block i (Nat.lt_of_lt_of_le hi h.size) (fun g => by rcases hG i g with g | g; exact hF g; omega)).trans (h.block i hi hF)⟩
theorem Only.same {F : Nat → Prop} {a b c : World} (h : Only F a b) (k : Only F b c) : Only F a c := h.trans k fun _ g => .inl g
theorem Only.mono {F G : Nat → Prop} {w w' : World} (h : Only F w w') (hG : ∀ i, F i → G i) : Only G w w' :=
 ⟨h.os, h.tape, h.output, h.size, fun k hk hn => h.block k hk fun f => hn (hG k f)⟩
theorem Only.drewN {F : Nat → Prop} {a w : World} (h : Only F a w) (n : Nat) : Only F a (w.drewN n) := ⟨h.os, h.tape, h.output, h.size, h.block⟩
theorem Only.drew {F : Nat → Prop} {a w : World} (h : Only F a w) : Only F a w.drew := ⟨h.os, h.tape, h.output, h.size, h.block⟩
theorem Only.setCell {F : Nat → Prop} {a w : World} (h : Only F a w) {p : Addr} (hp : F p.block ∨ a.heap.size ≤ p.block) (u : Value) : Only F a (w.setCell p u) :=
 h.trans (G := fun k => k = p.block) ⟨rfl, rfl, rfl, by simp [World.setCell], fun k _ hk => Below.heap_setCell _ _ _ _ hk⟩ (by intro i hi; subst hi; exact hp)
theorem Only.alloc {F : Nat → Prop} {a w : World} (h : Only F a w) (o : Obj) : Only F a (w.alloc o) :=
 h.trans (G := fun _ => False) ⟨rfl, rfl, rfl, by simp, fun k hk _ => Below.heap_alloc _ _ _ hk⟩ (by intro i hi; exact hi.elim)
theorem Only.grown {F : Nat → Prop} {a w w' : World} {row : Option Nat} (h : Only F a w) (hg : w.grownBy w' row) (hr : ∀ k, row = some k → F k ∨ a.heap.size ≤ k) : Only F a w' :=
 h.trans (G := fun k => row = some k) ⟨hg.os, hg.tape, hg.output, hg.size, fun k hk hn => hg.block k hk (fun e => hn e.symm)⟩ hr
theorem Only.below0 {w w' : World} (h : Only (fun _ => False) w w') : Below w.heap.size w w' :=
 ⟨h.os, h.tape, h.output, h.size, fun k hk => h.block k hk (fun f => f)⟩
theorem Only.trans' {F G : Nat → Prop} {w w' : World} (h : Only F w w') (hG : ∀ i, F i → w.heap.size ≤ i) : Only G w w' :=
 ⟨h.os, h.tape, h.output, h.size, fun k hk _ => h.block k hk fun f => by have := hG k f; omega⟩
theorem Only.of_below {B : Nat} {w w' : World} (h : Below B w w') : Only (fun k => B ≤ k) w w' :=
 ⟨h.os, h.tape, h.output, h.size, fun k _ hk => h.block k (by omega)⟩
theorem own_only {w w' : World} {base : Nat} {e : TypeId} {size : Nat} {v : Value} {n : Nat} {xs : List Value} {F : Nat → Prop}
  (h : w.ownsRow base e size v n xs) (ho : Only F w w') (hne : ∀ k, v.ownBlock = some k → ¬ F k) : w'.ownsRow base e size v n xs := by
 refine ⟨h.1, ?_⟩
 rcases h.2 with h2 | ⟨g, cap, cur, rfl, hb, hg, r⟩
 ·exact .inl h2
 ·exact .inr ⟨g, cap, cur, rfl, hb, by rw [ho.block g (Array.getElem?_eq_some_iff.1 hg).1 (hne g rfl)]; exact hg, r⟩
theorem own_lt {w : World} {base : Nat} {e : TypeId} {size : Nat} {v : Value} {n : Nat} {xs : List Value} (h : w.ownsRow base e size v n xs) {k : Nat} (hk : v.ownBlock = some k) : k < w.heap.size := (h.lt k hk).2
theorem own_some {w : World} {base : Nat} {e : TypeId} {size : Nat} {v : Value} {n : Nat} {xs : List Value} (h : w.ownsRow base e size v n xs) (hn : 0 < n) :
  ∃ g cap, v = .slice (some ⟨g, 0, none⟩) n cap ∧ n ≤ cap ∧ cap ≤ maxLen := by
 rcases h.2 with ⟨_, h2⟩ | ⟨g, cap, cur, rfl, hb, hg, h1, h2, _⟩
 ·omega
 ·exact ⟨g, cap, rfl, h1, h2⟩
theorem own_slice {w : World} {base : Nat} {e : TypeId} {size : Nat} {v : Value} {n : Nat} {xs : List Value} (h : w.ownsRow base e size v n xs) :
  ∃ ao cap, v = .slice ao n cap ∧ n ≤ cap ∧ cap ≤ maxLen := by
 rcases h.2 with ⟨rfl, rfl⟩ | ⟨g, cap, cur, rfl, hb, hg, h1, h2, _⟩
 ·exact ⟨none, 0, rfl, Nat.le_refl _, by unfold maxLen; omega⟩
 ·exact ⟨_, cap, rfl, h1, h2⟩
theorem cell_block {w : World} {b : Nat} {c : Array Value} {t : TypeId} {f : Nat × Nat} (h : w.heap[b]? = some (.cells c t f)) (i : Nat) : w.cell? ⟨b, i, none⟩ = c[i]? := by simp [World.cell?, h]
theorem free_block {w : World} {b : Nat} {c : Array Value} {t : TypeId} (h : w.heap[b]? = some (.cells c t (0, 0))) (i : Nat) : w.frozen? ⟨b, i, none⟩ = false := by simp [World.frozen?, h]
theorem lt_block {w : World} {b : Nat} {o : Obj} (h : w.heap[b]? = some o) : b < w.heap.size := (Array.getElem?_eq_some_iff.1 h).1
theorem set_block {w : World} {b : Nat} {c : Array Value} {t : TypeId} (h : w.heap[b]? = some (.cells c t (0, 0))) (i : Nat) (u : Value) :
  (w.setCell ⟨b, i, none⟩ u).heap[b]? = some (.cells (c.setIfInBounds i u) t (0, 0)) := heap_setCell_same w b i c t u h
theorem alloc_block {w : World} {b : Nat} {o : Obj} (h : w.heap[b]? = some o) (o' : Obj) : (w.alloc o').heap[b]? = some o := by
 rw [Below.heap_alloc _ _ _ (lt_block h)]; exact h
theorem only_block {w w' : World} {b : Nat} {o : Obj} {F : Nat → Prop} (h : w.heap[b]? = some o) (ho : Only F w w') (hb : ¬ F b) : w'.heap[b]? = some o := by
 rw [ho.block b (lt_block h) hb]; exact h
structure SlT (P : Program) (t e : TypeId) (size bytes : Nat) : Prop where
 und : P.underlying t = some (.slice e)
 info : ∃ i z, P.info? e = some i ∧ i.zero = some z ∧ i.size = size ∧ i.bytes = bytes ∧ z.cells.size = size
 pos : 0 < size
theorem SlT.mk' {P : Program} {t e : TypeId} {size bytes : Nat} {z : Value} (h : P.underlying t = some (.slice e)) (hi : (P.info? e).map (fun i => (i.zero, i.size, i.bytes)) = some (some z, size, bytes))
  (hz : z.cells.size = size) (hp : 0 < size) : SlT P t e size bytes := by
 obtain ⟨i, h1, h2, h3, h4⟩ := info_parts hi
 exact ⟨h, ⟨i, z, h1, h2, h3, h4, hz⟩, hp⟩
theorem run_append_x {P : Program} (w : World) {t e ty : TypeId} {size bytes : Nat} (T : SlT P t e size bytes)
  (v : Value) (n : Nat) (xs : List Value) (hown : w.ownsRow 0 e size v n xs)
  (a : Addr) (m c : Nat) (news : List Value) (hl : news.length = m * size) (hnews : ∀ j u, news[j]? = some u → w.cell? (a.add j) = some u) (h1 : ∀ u ∈ news, u.oneCell' = true)
  (h63 : n + m ≤ maxLen) (hbytes : (n + m) * bytes ≤ 140737488355328) :
  ∃ v' w', (Builtin.append_ #[t, t] ty #[v, .slice (some a) m c]).run P w = .ok v' w' ∧ w'.ownsRow 0 e size v' (n + m) (xs ++ news) ∧ w.grownBy w' v.ownBlock ∧
   (∀ k, v'.ownBlock = some k → v.ownBlock = some k ∨ w.heap.size ≤ k) ∧ (∃ k, v'.ownBlock = some k) = (v.ownBlock ≠ none ∨ 0 < m) := by
 obtain ⟨i, z, h2, h3, h4, h5, h6⟩ := T.info
 obtain ⟨v', w', hr, ho, hg, hnil⟩ := run_append_own (P := P) w 0 t ty e i z size bytes T.und h2 h3 h4 h5 h6 T.pos v n xs hown a m c news hl hnews h1 h63 hbytes (Nat.zero_le _)
 have hsome : (∃ k, v'.ownBlock = some k) = (v.ownBlock ≠ none ∨ 0 < m) := by
  apply propext
  have hv' : (∃ k, v'.ownBlock = some k) ↔ ¬ v' = .slice none 0 0 := by
   rcases ho.2 with ⟨rfl, _⟩ | ⟨g, cap, cur, rfl, _⟩ <;> simp [Value.ownBlock]
  have hv : v.ownBlock ≠ none ↔ ¬ v = .slice none 0 0 := by
   rcases hown.2 with ⟨rfl, _⟩ | ⟨g, cap, cur, rfl, _⟩ <;> simp [Value.ownBlock]
  rw [hv', hv, hnil]
  by_cases hv0 : v = .slice none 0 0
  ·simp [hv0]; omega
  ·simp [hv0]
 refine ⟨v', w', hr, ho, hg, ?_, hsome⟩
 intro k hk
 rcases hown.2 with ⟨rfl, rfl⟩ | ⟨g, cap, cur, rfl, hbg, hgg, hnc, hcm, hcs, htake⟩
 ·have hxs : xs = [] := List.eq_nil_of_length_eq_zero (by simpa using hown.1)
  subst hxs
  obtain ⟨v2, w2, hr2, ho2, _⟩ := run_append_own (P := P) w w.heap.size t ty e i z size bytes T.und h2 h3 h4 h5 h6 T.pos _ 0 [] (World.ownsRow_nil w w.heap.size e size) a m c news hl hnews h1 h63 hbytes (Nat.le_refl _)
  rw [hr] at hr2
  injection hr2 with e1 e2
  subst e1
  exact .inr (ho2.lt k hk).1
 ·by_cases hroom : n + m ≤ cap
  ·obtain ⟨w2, hr2, _⟩ := run_append_fits (P := P) w 0 t ty e i size T.und h2 h4 g n cap xs hown a m c news hl hnews h1 hroom
   rw [hr] at hr2
   injection hr2 with e1 e2
   subst e1
   exact .inl hk
  ·obtain ⟨v2, w2, hr2, ho2, _⟩ := run_append_arg_grows (P := P) w t ty e i z size bytes T.und h2 h3 h4 h5 h6 T.pos ⟨g, 0, none⟩ n cap xs hown.1 (hown.cells (g := g) rfl) a m c news hl hnews (by omega) h63 hbytes
   rw [hr] at hr2
   injection hr2 with e1 e2
   subst e1
   exact .inr (ho2.lt k hk).1
theorem wpA {P : Program} {w : World} {ops : Array Oper} {rest : List Oper} {o : Oper} {a : Act} {Q : Exit → Act → World → Prop} {t e : TypeId} {size bytes : Nat} (T : SlT P t e size bytes)
  (hgd : o.guard = none) (s x : Operand)
  (ho : o.op = .call { callee := .builtin .append, args := #[s, x], argTypes := #[t, t] })
  {v : Value} {n : Nat} {xs : List Value} (hs : a.eval s = v) (hown : w.ownsRow 0 e size v n xs)
  {ad : Addr} {m c : Nat} {news : List Value} (hx : a.eval x = .slice (some ad) m c) (hl : news.length = m * size) (hnews : ∀ j u, news[j]? = some u → w.cell? (ad.add j) = some u) (h1 : ∀ u ∈ news, u.oneCell' = true)
  (h63 : n + m ≤ maxLen) (hbytes : (n + m) * bytes ≤ 140737488355328)
  (h : ∀ v' w', w'.ownsRow 0 e size v' (n + m) (xs ++ news) → w.grownBy w' v.ownBlock → (∀ k, v'.ownBlock = some k → v.ownBlock = some k ∨ w.heap.size ≤ k) → (∃ k, v'.ownBlock = some k) = (v.ownBlock ≠ none ∨ 0 < m) → wpList P ops Q rest (a.put o.dst v') w') : wpList P ops Q (o :: rest) a w := by
 refine wpList_plain hgd fun K hK => ?_
 obtain ⟨v', w', hr, h2, h3, h4, h5⟩ := run_append_x (P := P) (ty := o.type) w T v n xs hown ad m c news hl hnews h1 h63 hbytes
 unfold Oper.wp execOp
 simp only [ho, resolve, invoke, builtin, Sem.run_bind, Sem.run_pure, Result.andThen_ok, List.map_toArray, List.map_cons, List.map_nil, hs, hx, hr]
 exact hK _ _ (h v' w' h2 h3 h4 h5)
def AppTo (w : World) (v v' : Value) (m : Nat) : Prop := ∃ g cap, v' = .slice (some ⟨g, 0, none⟩) m cap ∧ m ≤ cap ∧ cap ≤ maxLen ∧ (v.ownBlock = some g ∨ w.heap.size ≤ g)
theorem wpA1 {P : Program} {w : World} {u : Value} {ops : Array Oper} {rest : List Oper} {o : Oper} {a : Act} {Q : Exit → Act → World → Prop} {t e : TypeId} {bytes : Nat} (T : SlT P t e 1 bytes)
  (hgd : o.guard = none) (s x : Operand)
  (ho : o.op = .call { callee := .builtin .append, args := #[s, x], argTypes := #[t, t] })
  {v : Value} {n : Nat} {xs : List Value} {g : Nat} (hs : a.eval s = v) (hx : a.eval x = .slice (some ⟨g, 0, none⟩) 1 1) (hc : w.cell? ⟨g, 0, none⟩ = some u) (hu : u.oneCell' = true) (hown : w.ownsRow 0 e 1 v n xs)
  (h63 : n + 1 ≤ 1099511627776) (hbytes : bytes ≤ 64)
  (h : ∀ v' w', w'.ownsRow 0 e 1 v' (n + 1) (xs ++ [u]) → Only (fun k => v.ownBlock = some k) w w' → AppTo w v v' (n + 1) → wpList P ops Q rest (a.put o.dst v') w') :
  wpList P ops Q (o :: rest) a w := by
 refine wpA T hgd s x ho (news := [u]) hs hown hx rfl ?_ ?_ ?_ ?_ ?_
 ·intro j x hj
  match j, hj with
  | 0, hj =>
   simp at hj; subst hj
   simpa [Addr.add] using hc
 ·intro x hxm; simp at hxm; subst hxm; exact hu
 ·unfold maxLen; omega
 ·have : (n + 1) * bytes ≤ 1099511627776 * 64 := Nat.mul_le_mul h63 hbytes
  omega
 ·intro v' w' r1 r2 r3 r4
  refine h v' w' r1 ?_ ?_
  ·exact (Only.refl _ w).grown r2 fun k hk => .inl hk
  ·obtain ⟨g, cap, rfl, hc1, hc2⟩ := own_some r1 (by omega)
   exact ⟨g, cap, rfl, hc1, hc2, r3 g rfl⟩
abbrev cI (x : Int) : Value := .int .i64 x
def InI64 (x : Int) : Prop := -9223372036854775808 ≤ x ∧ x ≤ 9223372036854775807
structure Ints (w : World) (v : Value) (xs : List Int) : Prop where
 shape : ∃ ao cap, v = .slice ao xs.length cap ∧ xs.length ≤ cap ∧ cap ≤ 9223372036854775807
 cells : ∀ ao len cap, v = .slice ao len cap → 0 < xs.length → ∃ b off, ao = some ⟨b, off, none⟩ ∧ b < w.heap.size ∧ ∀ i, i < xs.length → w.cell? ⟨b, off + i, none⟩ = some (.int .i64 (xs.getD i 0))
 range : ∀ x ∈ xs, InI64 x
 nil : ∀ len cap, v = .slice none len cap → len = 0 ∧ cap = 0
def Value.blk : Value → Option Nat
 | .slice (some a) _ _ => some a.block
 | _ => none
theorem own_nil {w : World} {e : TypeId} {size len cap n : Nat} {xs : List Value} (h : w.ownsRow 0 e size (.slice none len cap) n xs) : len = 0 ∧ cap = 0 := by
 rcases h.2 with ⟨h2, _⟩ | ⟨g, c, cur, h2, _⟩
 ·simp only [Value.slice.injEq, true_and] at h2; exact h2
 ·simp at h2
theorem Ints.of_own {w : World} {v : Value} {xs : List Int} (h : w.ownsRow 0 3 1 v xs.length (xs.map (Value.int .i64))) (hr : ∀ x ∈ xs, InI64 x) : Ints w v xs := by
 obtain ⟨ao, cap, rfl, h1, h2⟩ := own_slice h
 unfold maxLen at h2
 refine ⟨⟨ao, cap, rfl, h1, by omega⟩, fun ao' len' cap' hv hp => ?_, hr, fun len' cap' hv => by rw [hv] at h; exact own_nil h⟩
 simp only [Value.slice.injEq] at hv
 obtain ⟨rfl, rfl, rfl⟩ := hv
 obtain ⟨g, cap', he, _, _⟩ := own_some h hp
 simp only [Value.slice.injEq] at he
 obtain ⟨rfl, -, rfl⟩ := he
 refine ⟨g, 0, rfl, own_lt h rfl, fun i hi => ?_⟩
 rw [Nat.zero_add, h.cellAt i (by omega)]
 simp [List.getD, List.getElem?_eq_getElem hi]
theorem slInt : SlT Tryz.prog 39 3 1 8 := SlT.mk' (z := .int .i64 0) Tryz.underlying39 (by kernel_rfl) rfl (by decide)
theorem own_lit0 (w : World) : (w.alloc (.cells #[] 3)).ownsRow 0 3 1 (.slice (some ⟨w.heap.size, 0, none⟩) 0 0) 0 [] :=
 World.ownsRow_lit (base := 0) (e := 3) (size := 1) w #[] 0 (Nat.zero_le _) (by unfold maxLen; omega) (by simp)
theorem cell_new0 (w : World) (u : Value) (t : TypeId) : (w.alloc (.cells #[u] t)).cell? ⟨w.heap.size, 0, none⟩ = some u := by simp
abbrev nilS : Value := .slice none 0 0
abbrev zq1 := @List.getElem_toArray
abbrev zq2 := @List.getElem_cons_succ
abbrev zq3 := @List.getElem_cons_zero
abbrev zq4 := @List.setIfInBounds_toArray
abbrev zq5 := @List.set_cons_zero
abbrev zq6 := @List.set_cons_succ
end Go.Proofs.YtmlfchjompfmaaaGreatDoor

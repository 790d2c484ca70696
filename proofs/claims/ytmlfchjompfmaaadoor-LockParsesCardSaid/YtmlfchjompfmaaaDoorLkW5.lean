/- lock.wants: a line of what the last node needs. Printed by gen_lkw5.py. -/
import Derived.Test.YtmlfchjompfmaaaDoorLkW4
import Derived.Test.YtmlfchjompfmaaaDoorRegion5
import Derived.Laws.Cover1
set_option linter.unusedVariables false
namespace Go.Proofs.YtmlfchjompfmaaaDoor
open Go.RowKit
open Lk (nameB valueB wantsP lastB lastNeed)
section
variable {w w' : World} {B : Nat}
def GB (B : Nat) (w : World) (P : Nat) (L : List LN) : Prop := ∃ rv, w.heap[P]? = some (.cells #[rv] 39 (0, 0)) ∧ RowN B w rv L
def OneEnd (B P : Nat) (G : Option (List Lk.NB)) (L : List LN) (w w' : World) (e : Ending) : Prop :=
 ∃ b, e = .returned (.bool b) ∧ Only (fun k => B ≤ k ∨ k = P) w w' ∧ (match G with | none => b = false ∧ GB B w' P L | some g => b = true ∧ ∃ L', toG (L'.map LN.x) = g ∧ GB B w' P L')
theorem GB.only0 {P : Nat} {L : List LN} (h : GB B w P L) (ho : Only (fun _ => False) w w') : GB B w' P L := by
 obtain ⟨rv, h1, h2⟩ := h
 exact ⟨rv, (ho.block P (Array.getElem?_eq_some_iff.1 h1).1 (fun f => f)).trans h1, h2.only0 ho⟩
theorem OneEnd.no {P : Nat} {G : Option (List Lk.NB)} {L : List LN} {e : Ending} (hG : G = none) (h : GB B w P L) (ho : Only (fun _ => False) w w') (he : e = .returned (.bool false)) : OneEnd B P G L w w' e := by
 subst hG
 exact ⟨false, he, ho.mono fun _ f => f.elim, rfl, h.only0 ho⟩
theorem snoc_cases {α : Type} (L : List α) : L = [] ∨ ∃ L0 m, L = L0 ++ [m] := by
 rcases List.eq_nil_or_concat L with h | ⟨a, b, h⟩
 ·exact .inl h
 ·exact .inr ⟨a, b, by rw [h, List.concat_eq_append]⟩
theorem toG_last {L : List LN} : (toG (L.map LN.x)).getLast? = (L.getLast?).map fun n => n.x.toB := by
 unfold toG
 rw [List.getLast?_map, List.getLast?_map]
 cases L.getLast? <;> rfl
theorem wants_none {P : Nat} {name : Str} {e : Ending} (h : GB B w P []) (ho : Only (fun _ => False) w w') (he : e = .returned (.bool false)) : OneEnd B P (wantsP (toG (([] : List LN).map LN.x)) name.toList) [] w w' e := OneEnd.no rfl h ho he
theorem flatN_set : ∀ (L0 : List LN) (m : LN) (v : Value), (flatN (L0 ++ [m])).set (L0.length * 4 + 3) v = flatN (L0 ++ [{ m with v2 := v }])
 | [], m, v => rfl
 | n :: L0, m, v => by
  have ih := flatN_set L0 m v
  have e : flatN (n :: L0 ++ [m]) = n.cells ++ flatN (L0 ++ [m]) := rfl
  have e2 : flatN (n :: L0 ++ [{ m with v2 := v }]) = n.cells ++ flatN (L0 ++ [{ m with v2 := v }]) := rfl
  have hl : n.cells.length = 4 := rfl
  rw [e, e2, List.set_append_right _ _ (by rw [hl, List.length_cons]; omega), hl, ← ih]
  congr 2
  rw [List.length_cons]; omega
def LN.more (m : LN) (name : Str) (v : Value) : LN := { x := { m.x with needs := m.x.needs ++ [name] }, v1 := m.v1, v2 := v }
theorem RowN.need {w4 : World} {g cap n0 : Nat} {L0 : List LN} {m : LN} {name : Str} {v' : Value} (h : RowN B w (.slice (some ⟨g, 0, none⟩) (n0 + 1) cap) (L0 ++ [m])) (hn : L0.length = n0) (hk : okS name)
  (hown : w4.ownsRow 0 9 1 v' (m.x.needs.length + 1) (strs9 m.x.needs ++ [.string name])) (o : Only (fun j => m.v2.ownBlock = some j) w w4) (hnew : ∀ j, v'.ownBlock = some j → m.v2.ownBlock = some j ∨ w.heap.size ≤ j) (hB : B ≤ w.heap.size) :
  RowN B (w4.setCell ⟨g, n0 * 4 + 3, none⟩ v') (.slice (some ⟨g, 0, none⟩) (n0 + 1) cap) (L0 ++ [m.more name v']) ∧ B ≤ g ∧ w4.cell? ⟨g, n0 * 4 + 3, none⟩ = some m.v2 ∧ w4.frozen? ⟨g, n0 * 4 + 3, none⟩ = false := by
 have hm := h.each m (by simp)
 have hg : B ≤ g := h.new g rfl
 have hlen : (L0 ++ [m]).length = n0 + 1 := by rw [List.length_append, hn]; rfl
 have hlen2 : (L0 ++ [m.more name v']).length = n0 + 1 := by rw [List.length_append, hn]; rfl
 have hap := List.pairwise_append.1 h.apart
 have o4 : w4.ownsRow 0 80 4 (.slice (some ⟨g, 0, none⟩) (n0 + 1) cap) (n0 + 1) (flatN (L0 ++ [m])) := by
  have := h.own
  rw [hlen] at this
  exact own_only this o (fun k hk e => own_ty (by decide) this hm.needs hk e)
 have oS : Only (fun k => k = g) w4 (w4.setCell ⟨g, n0 * 4 + 3, none⟩ v') := (Only.refl (fun k => k = g) w4).setCell (p := ⟨g, n0 * 4 + 3, none⟩) (.inl rfl) _
 have notg : ∀ {t : TypeId} {sz n : Nat} {v : Value} {xs : List Value}, 80 ≠ t → w4.ownsRow 0 t sz v n xs → ∀ k, v.ownBlock = some k → k ≠ g := fun ht hv k hk e => own_ty ht o4 hv (k := g) rfl (e ▸ hk)
 have f0 : ∀ n ∈ L0, OwnN B w4 n := fun n hn => by
  have hnn := h.each n (List.mem_append_left _ hn)
  exact hnn.only o (fun k hk e => own_ty (by decide) hnn.sets hm.needs hk e) (fun k hk e => hap.2.2 n hn m (by simp) k hk e)
 refine ⟨⟨?_, h.new, fun n hnm => ?_, ?_⟩, hg, ?_, o4.frozenAt _⟩
 ·rw [hlen2]
  have st := (o4.stored (n0 * 4 + 3) v').1
  rw [← hn, flatN_set, hn] at st
  have e : flatN (L0 ++ [m.more name v']) = flatN (L0 ++ [{ m with v2 := v' }]) := by
   rw [flatN_snoc, flatN_snoc]; rfl
  rw [e]
  exact st
 ·rcases List.mem_append.1 hnm with q | q
  ·have q4 := f0 n q
   exact q4.only oS (fun k hk e => notg (by decide) q4.sets k hk e) (fun k hk e => notg (by decide) q4.needs k hk e)
  ·rw [List.mem_singleton.1 q]
   have hs4 := own_only hm.sets o (fun k hk e => own_ty (by decide) hm.sets hm.needs hk e)
   have hn4 : w4.ownsRow 0 9 1 v' (m.x.needs ++ [name]).length (strs9 (m.x.needs ++ [name])) := by
    have e1 : (m.x.needs ++ [name]).length = m.x.needs.length + 1 := by simp
    have e2 : strs9 (m.x.needs ++ [name]) = strs9 m.x.needs ++ [.string name] := by simp [strs9]
    rw [e1, e2]
    exact hown
   refine ⟨hm.k1, hm.k2, own_only hs4 oS (fun k hk e => notg (by decide) hs4 k hk e), own_only hn4 oS (fun k hk e => notg (by decide) hn4 k hk e), hm.k3, fun s hs => ?_, hm.new1, fun k hk => ?_⟩
   ·rcases List.mem_append.1 hs with r | r
    ·exact hm.k4 s r
    ·rw [List.mem_singleton.1 r]; exact hk
   ·rcases hnew k hk with r | r
    ·exact hm.new2 k r
    ·omega
 ·rw [List.pairwise_append]
  refine ⟨hap.1, List.pairwise_singleton _ _, fun a ha b hb k hka hkb => ?_⟩
  rw [List.mem_singleton.1 hb] at hkb
  rcases hnew k hkb with r | r
  ·exact hap.2.2 a ha m (by simp) k hka r
  ·have := own_lt (h.each a (List.mem_append_left _ ha)).needs hka
   omega
 ·rw [o4.cellAt (n0 * 4 + 3) (by omega)]
  exact flatN_at (L0 ++ [m]) n0 m (by rw [← hn]; simp) 3 m.v2 rfl
theorem more_toG {L0 : List LN} {m : LN} {name : Str} {v : Value} : toG ((L0 ++ [m.more name v]).map LN.x) = (toG ((L0 ++ [m]).map LN.x)).dropLast ++ [{ m.x.toB with needs := m.x.toB.needs ++ [name.toList] }] := by
 have e1 : toG ((L0 ++ [m]).map LN.x) = toG (L0.map LN.x) ++ [m.x.toB] := by simp [toG]
 have e2 : toG ((L0 ++ [m.more name v]).map LN.x) = toG (L0.map LN.x) ++ [(m.more name v).x.toB] := by simp [toG]
 rw [e1, e2, List.dropLast_concat]
 congr 2
 show NodeD.toB _ = _
 unfold NodeD.toB
 simp [LN.more]
theorem wants_done {w3 w4 : World} {P g cap n0 : Nat} {L0 : List LN} {m : LN} {name : Str} {v' : Value} {G : Option (List Lk.NB)} (hb : w.heap[P]? = some (.cells #[.slice (some ⟨g, 0, none⟩) (n0 + 1) cap] 39 (0, 0))) (o3 : Only (fun _ => False) w w3) (h : RowN B w3 (.slice (some ⟨g, 0, none⟩) (n0 + 1) cap) (L0 ++ [m])) (hn : L0.length = n0) (hk : okS name)
  (hown : w4.ownsRow 0 9 1 v' (m.x.needs.length + 1) (strs9 m.x.needs ++ [.string name])) (o : Only (fun j => m.v2.ownBlock = some j) w3 w4) (hnew : ∀ j, v'.ownBlock = some j → m.v2.ownBlock = some j ∨ w3.heap.size ≤ j) (hB : B ≤ w3.heap.size)
  (hG : G = some ((toG ((L0 ++ [m]).map LN.x)).dropLast ++ [{ m.x.toB with needs := m.x.toB.needs ++ [name.toList] }])) : OneEnd B P G (L0 ++ [m]) w (w4.setCell ⟨g, n0 * 4 + 3, none⟩ v') (.returned (.bool true)) := by
 obtain ⟨h1, h2, -, -⟩ := h.need hn hk hown o hnew hB
 have hm := h.each m (by simp)
 have b3 : w3.heap[P]? = some (.cells #[.slice (some ⟨g, 0, none⟩) (n0 + 1) cap] 39 (0, 0)) := (o3.block P (Array.getElem?_eq_some_iff.1 hb).1 (fun f => f)).trans hb
 have b4 : w4.heap[P]? = some (.cells #[.slice (some ⟨g, 0, none⟩) (n0 + 1) cap] 39 (0, 0)) := (o.block P (Array.getElem?_eq_some_iff.1 b3).1 (fun e => own_blk (by decide) hm.needs b3 e)).trans b3
 have hPg : P ≠ g := fun e => own_blk (by decide) h.own b3 (by rw [e]; rfl)
 have oS : Only (fun k => k = g) w4 (w4.setCell ⟨g, n0 * 4 + 3, none⟩ v') := (Only.refl (fun k => k = g) w4).setCell (p := ⟨g, n0 * 4 + 3, none⟩) (.inl rfl) _
 have b5 := (oS.block P (Array.getElem?_eq_some_iff.1 b4).1 hPg).trans b4
 subst hG
 refine ⟨true, rfl, ?_, rfl, L0 ++ [m.more name v'], more_toG, _, b5, h1⟩
 refine Only.mono (F := fun k => B ≤ k) (((o3.mono fun _ f => f.elim).trans (G := fun j => m.v2.ownBlock = some j) o fun i hi => .inl (hm.new2 i hi)).trans oS fun i hi => .inl (by rw [hi]; exact h2)) fun _ h => .inl h
set_option maxRecDepth 100000 in
set_option maxHeartbeats 4000000 in
attribute [local irreducible] wpQuiet in
theorem wants_x {P : Nat} {L : List LN} (name : Str) (hk : okS name) (h : GB B w P L) (hl : L.length ≤ 24) (hn : ∀ n ∈ L, n.x.needs.length ≤ 24) (hB : B ≤ w.heap.size) :
  Calls Tryd.prog 54 #[.pointer (some ⟨P, 0, none⟩), .string name] w (fun e w' => OneEnd B P (wantsP (toG (L.map LN.x)) name.toList) L w w' e) := by
 have HGB := Lib.hid h
 obtain ⟨rv, hb, hr⟩ := h
 obtain ⟨na, hna⟩ : ∃ x, nameB name.toList = x := ⟨_, rfl⟩
 have HN : Hid (∀ W, Calls Tryd.prog 78 #[.string name] W (fun e w' => e = .returned (.bool na) ∧ Only (fun _ => False) W w')) := fun W => VName_x name hk na hna
 rcases snoc_cases L with rfl | ⟨L0, m, rfl⟩
 ·obtain ⟨ao, cap, rfl, -, -⟩ := own_slice hr.own
  have HLa := Lib.hid (last_nil (P := P) (ao := ao) (cap := cap) (by rw [cell_block hb]; rfl))
  clear hb hr hk hna hl hn
  go_enter Tryd.func54, Tryd.ntmps54
  go_wp2_with fail
  refine HLa.out.mono ?_
  rintro e w1 ⟨rfl, O1⟩
  have HO1 := Lib.hid O1
  clear O1 HLa
  have HEndN : Hid (∀ w2, Only (fun _ => False) w1 w2 → OneEnd B P (wantsP (toG (([] : List LN).map LN.x)) name.toList) [] w w2 (.returned (.bool false))) := fun w2 o => wants_none HGB.out (HO1.out.same o) rfl
  go_wp2_with fail
  refine wp_region_Q (fun w' => Only (fun _ => False) w1 w') (by kernel_rfl) (by kernel_rfl) (by exact (Only.refl _ _).drew) ?_
  refine wpQ_val (v := ?_) (by rfl) ?_ ?_
  rotate_left
  ·(intro w hSw; (try dsimp only at hSw); go_simp <;> (try with_reducible rfl))
  try simp only [Act.put, zq4, zq5, zq6]
  refine wpQ_val (v := ?_) (by rfl) ?_ ?_
  rotate_left
  ·(intro w hSw; (try dsimp only at hSw); go_simp <;> (try with_reducible rfl))
  try simp only [Act.put, zq4, zq5, zq6]
  refine wpQ_val (v := ?_) (by rfl) ?_ ?_
  rotate_left
  ·(intro w hSw; (try dsimp only at hSw); go_simp <;> (try with_reducible rfl))
  try simp only [Act.put, zq4, zq5, zq6]
  refine wpQ_skip (by kernel_rfl) ?_
  try simp only [Act.put, zq4, zq5, zq6]
  refine wpQ_skip (by kernel_rfl) ?_
  try simp only [Act.put, zq4, zq5, zq6]
  refine wpQ_skip (by kernel_rfl) ?_
  try simp only [Act.put, zq4, zq5, zq6]
  refine wpQ_val (v := ?_) (by rfl) ?_ ?_
  rotate_left
  ·(intro w hSw; (try dsimp only at hSw); go_simp <;> (try with_reducible rfl))
  try simp only [Act.put, zq4, zq5, zq6]
  refine wpQ_val (v := ?_) (by rfl) ?_ ?_
  rotate_left
  ·(intro w hSw; (try dsimp only at hSw); go_simp <;> (try with_reducible rfl))
  try simp only [Act.put, zq4, zq5, zq6]
  refine wpQ_skip (by kernel_rfl) ?_
  try simp only [Act.put, zq4, zq5, zq6]
  refine wpQ_skip (by kernel_rfl) ?_
  try simp only [Act.put, zq4, zq5, zq6]
  refine wpQ_skip (by kernel_rfl) ?_
  try simp only [Act.put, zq4, zq5, zq6]
  refine wpQ_skip (by kernel_rfl) ?_
  try simp only [Act.put, zq4, zq5, zq6]
  refine wpQ_skip (by kernel_rfl) ?_
  try simp only [Act.put, zq4, zq5, zq6]
  refine wpQ_skip (by kernel_rfl) ?_
  try simp only [Act.put, zq4, zq5, zq6]
  refine wpQ_val (v := ?_) (by rfl) ?_ ?_
  rotate_left
  ·(intro w hSw; (try dsimp only at hSw); go_simp <;> (try with_reducible rfl))
  try simp only [Act.put, zq4, zq5, zq6]
  refine wpQ_val (v := ?_) (by rfl) ?_ ?_
  rotate_left
  ·(intro w hSw; (try dsimp only at hSw); go_simp <;> (try with_reducible rfl))
  try simp only [Act.put, zq4, zq5, zq6]
  refine wpQ_skip (by kernel_rfl) ?_
  try simp only [Act.put, zq4, zq5, zq6]
  refine wpQ_skip (by kernel_rfl) ?_
  try simp only [Act.put, zq4, zq5, zq6]
  refine wpQ_skip (by kernel_rfl) ?_
  try simp only [Act.put, zq4, zq5, zq6]
  refine wpQ_skip (by kernel_rfl) ?_
  try simp only [Act.put, zq4, zq5, zq6]
  refine wpQ_skip (by kernel_rfl) ?_
  try simp only [Act.put, zq4, zq5, zq6]
  refine wpQ_skip (by kernel_rfl) ?_
  try simp only [Act.put, zq4, zq5, zq6]
  refine wpQ_skip (by kernel_rfl) ?_
  try simp only [Act.put, zq4, zq5, zq6]
  refine wpQ_skip (by kernel_rfl) ?_
  try simp only [Act.put, zq4, zq5, zq6]
  refine wpQ_skip (by kernel_rfl) ?_
  try simp only [Act.put, zq4, zq5, zq6]
  refine wpQ_skip (by kernel_rfl) ?_
  try simp only [Act.put, zq4, zq5, zq6]
  refine wpQ_skip (by kernel_rfl) ?_
  try simp only [Act.put, zq4, zq5, zq6]
  refine wpQ_skip (by kernel_rfl) ?_
  try simp only [Act.put, zq4, zq5, zq6]
  refine wpQ_skip (by kernel_rfl) ?_
  try simp only [Act.put, zq4, zq5, zq6]
  refine wpQ_skip (by kernel_rfl) ?_
  try simp only [Act.put, zq4, zq5, zq6]
  refine wpQ_skip (by kernel_rfl) ?_
  try simp only [Act.put, zq4, zq5, zq6]
  refine wpQ_skip (by kernel_rfl) ?_
  try simp only [Act.put, zq4, zq5, zq6]
  refine wpQ_skip (by kernel_rfl) ?_
  try simp only [Act.put, zq4, zq5, zq6]
  refine wpQ_skip (by kernel_rfl) ?_
  try simp only [Act.put, zq4, zq5, zq6]
  refine wpQ_skip (by kernel_rfl) ?_
  try simp only [Act.put, zq4, zq5, zq6]
  refine wpQ_skip (by kernel_rfl) ?_
  try simp only [Act.put, zq4, zq5, zq6]
  refine wpQ_skip (by kernel_rfl) ?_
  try simp only [Act.put, zq4, zq5, zq6]
  refine wpQ_skip (by kernel_rfl) ?_
  try simp only [Act.put, zq4, zq5, zq6]
  refine wpQ_val (v := ?_) (by rfl) ?_ ?_
  rotate_left
  ·(intro w hSw; (try dsimp only at hSw); go_simp <;> (try with_reducible rfl))
  try simp only [Act.put, zq4, zq5, zq6]
  refine wpQuiet_nil ?_
  intro w2 O2
  have HO2 := Lib.hid O2
  clear O2
  go_wp2_with fail
  go_ret
  exact HEndN.out w2 HO2.out
 ·have hml : (toG ((L0 ++ [m]).map LN.x)).getLast? = some m.x.toB := by rw [toG_last, List.getLast?_concat]; rfl
  obtain ⟨g, cap, rfl, hc1, hc2⟩ := own_some hr.own (by rw [List.length_append]; simp)
  obtain ⟨n0, hn0⟩ : ∃ n0, L0.length = n0 := ⟨_, rfl⟩
  have hlen : (L0 ++ [m]).length = n0 + 1 := by rw [List.length_append, hn0]; rfl
  rw [hlen] at hl hb hc1 hr
  have hm := hr.each m (by simp)
  obtain ⟨a2, c2, hv2, hv3, hv4⟩ := own_slice hm.needs
  have hmn : m.x.needs.length ≤ 24 := hn m (by simp)
  have hcell : w.cell? ⟨g, n0 * 4 + 3, none⟩ = some (.slice a2 m.x.needs.length c2) := by
   have h1 := flatN_at (L0 ++ [m]) n0 m (by rw [← hn0]; simp) 3 m.v2 rfl
   rw [← hv2, ← h1]
   have := hr.own
   rw [hlen] at this
   exact this.cellAt (n0 * 4 + 3) (by omega)
  obtain ⟨k, hkn⟩ : ∃ k, m.x.needs.length = k := ⟨_, rfl⟩
  have HKn := Lib.hid hkn
  rw [hkn] at hcell hv3 hmn
  have HRow := Lib.hid hr
  have HBk := Lib.hid hb
  have HCell := Lib.hid hcell
  have HV2 := Lib.hid hv2
  have HN0 := Lib.hid hn0
  have HOk := Lib.hid hk
  have HBs := Lib.hid hB
  have HMl := Lib.hid hml
  have HNa := Lib.hid hna
  have HLa := Lib.hid (last_some (P := P) (g := g) (n := n0) (cap := cap) (by rw [cell_block hb]; rfl) (by omega))
  clear hb hr hk hna hn hcell hv2 hn0 hm hlen hkn hml
  go_enter Tryd.func54, Tryd.ntmps54
  go_wp2_with fail
  refine HLa.out.mono ?_
  rintro e w1 ⟨rfl, O1⟩
  have HO1 := Lib.hid O1
  clear O1 HLa
  have hwp : ∀ r, (decide (nameB name.toList = true ∧ m.x.toB.needs.length ≠ 24 ∧ lastNeed m.x.toB name.toList = true)) = r → wantsP (toG ((L0 ++ [m]).map LN.x)) name.toList = if r = true then some ((toG ((L0 ++ [m]).map LN.x)).dropLast ++ [{ m.x.toB with needs := m.x.toB.needs ++ [name.toList] }]) else none := fun r hr => by
   unfold wantsP
   rw [HMl.out]
   subst hr
   simp only [decide_eq_true_eq]
  have HWp := Lib.hid hwp
  clear hwp
  have hlenB : m.x.toB.needs.length = k := by show (m.x.needs.map ByteArray.toList).length = k; rw [List.length_map, HKn.out]
  have HLenB := Lib.hid hlenB
  have HEndN : (decide (nameB name.toList = true ∧ m.x.toB.needs.length ≠ 24 ∧ lastNeed m.x.toB name.toList = true)) = false → Hid (∀ w2, Only (fun _ => False) w1 w2 → OneEnd B P (wantsP (toG ((L0 ++ [m]).map LN.x)) name.toList) (L0 ++ [m]) w w2 (.returned (.bool false))) := fun hf w2 o => OneEnd.no (by rw [HWp.out false hf]; rfl) HGB.out (HO1.out.same o) rfl
  have HQ3 : Hid (∀ W, Only (fun _ => False) w1 W → W.cell? ⟨g, n0 * 4 + 3, none⟩ = some (.slice a2 k c2)) := fun W o => by
   rw [World.cell?_of_block (w := w) ((HO1.out.same o).block _ (World.block_lt_of_cell? _ _ HCell.out) (fun f => f))]; exact HCell.out
  have HEndN2 := Lib.hid HEndN
  clear HEndN hlenB
  cases na with
  | false =>
   have HEndN := HEndN2.out (by rw [decide_eq_false]; intro h; rw [HNa.out] at h; exact absurd h.1 (by decide))
   clear HEndN2
   go_wp2_with fail
   refine wp_region_Q (fun w' => Only (fun _ => False) w1 w') (by kernel_rfl) (by kernel_rfl) (by exact (Only.refl _ _).drew) ?_
   refine wpQ_val (v := ?_) (by rfl) ?_ ?_
   rotate_left
   ·(intro w hSw; (try dsimp only at hSw); go_simp <;> (try with_reducible rfl))
   try simp only [Act.put, zq4, zq5, zq6]
   refine wpQ_val (v := ?_) (by rfl) ?_ ?_
   rotate_left
   ·(intro w hSw; (try dsimp only at hSw); go_simp <;> (try with_reducible rfl))
   try simp only [Act.put, zq4, zq5, zq6]
   refine wpQ_val (v := ?_) (by rfl) ?_ ?_
   rotate_left
   ·(intro w hSw; (try dsimp only at hSw); go_simp <;> (try with_reducible rfl))
   try simp only [Act.put, zq4, zq5, zq6]
   refine wpQ_val (v := ?_) (by rfl) ?_ ?_
   rotate_left
   ·(intro w hSw; (try dsimp only at hSw); go_simp <;> (try with_reducible rfl))
   try simp only [Act.put, zq4, zq5, zq6]
   refine wpQ_call (v := .bool false) (f := 78) (args := #[.string name]) (by rfl) ?_ ?_ ?_
   ·(intro w; go_simp <;> (try with_reducible rfl))
   ·(intro w hSw; exact (HN.out w).mono fun _ _ ⟨he, hw⟩ => ⟨he, hSw.same hw⟩)
   try simp only [Act.put, zq4, zq5, zq6]
   refine wpQ_val (v := ?_) (by rfl) ?_ ?_
   rotate_left
   ·(intro w hSw; (try dsimp only at hSw); go_simp <;> (try with_reducible rfl))
   try simp only [Act.put, zq4, zq5, zq6]
   refine wpQ_val (v := ?_) (by rfl) ?_ ?_
   rotate_left
   ·(intro w hSw; (try dsimp only at hSw); go_simp <;> (try with_reducible rfl))
   try simp only [Act.put, zq4, zq5, zq6]
   refine wpQ_val (v := ?_) (by rfl) ?_ ?_
   rotate_left
   ·(intro w hSw; (try dsimp only at hSw); go_simp <;> (try with_reducible rfl))
   try simp only [Act.put, zq4, zq5, zq6]
   refine wpQ_skip (by kernel_rfl) ?_
   try simp only [Act.put, zq4, zq5, zq6]
   refine wpQ_skip (by kernel_rfl) ?_
   try simp only [Act.put, zq4, zq5, zq6]
   refine wpQ_skip (by kernel_rfl) ?_
   try simp only [Act.put, zq4, zq5, zq6]
   refine wpQ_skip (by kernel_rfl) ?_
   try simp only [Act.put, zq4, zq5, zq6]
   refine wpQ_skip (by kernel_rfl) ?_
   try simp only [Act.put, zq4, zq5, zq6]
   refine wpQ_skip (by kernel_rfl) ?_
   try simp only [Act.put, zq4, zq5, zq6]
   refine wpQ_val (v := ?_) (by rfl) ?_ ?_
   rotate_left
   ·(intro w hSw; (try dsimp only at hSw); go_simp <;> (try with_reducible rfl))
   try simp only [Act.put, zq4, zq5, zq6]
   refine wpQ_val (v := ?_) (by rfl) ?_ ?_
   rotate_left
   ·(intro w hSw; (try dsimp only at hSw); go_simp <;> (try with_reducible rfl))
   try simp only [Act.put, zq4, zq5, zq6]
   refine wpQ_skip (by kernel_rfl) ?_
   try simp only [Act.put, zq4, zq5, zq6]
   refine wpQ_skip (by kernel_rfl) ?_
   try simp only [Act.put, zq4, zq5, zq6]
   refine wpQ_skip (by kernel_rfl) ?_
   try simp only [Act.put, zq4, zq5, zq6]
   refine wpQ_skip (by kernel_rfl) ?_
   try simp only [Act.put, zq4, zq5, zq6]
   refine wpQ_skip (by kernel_rfl) ?_
   try simp only [Act.put, zq4, zq5, zq6]
   refine wpQ_skip (by kernel_rfl) ?_
   try simp only [Act.put, zq4, zq5, zq6]
   refine wpQ_skip (by kernel_rfl) ?_
   try simp only [Act.put, zq4, zq5, zq6]
   refine wpQ_skip (by kernel_rfl) ?_
   try simp only [Act.put, zq4, zq5, zq6]
   refine wpQ_skip (by kernel_rfl) ?_
   try simp only [Act.put, zq4, zq5, zq6]
   refine wpQ_skip (by kernel_rfl) ?_
   try simp only [Act.put, zq4, zq5, zq6]
   refine wpQ_skip (by kernel_rfl) ?_
   try simp only [Act.put, zq4, zq5, zq6]
   refine wpQ_skip (by kernel_rfl) ?_
   try simp only [Act.put, zq4, zq5, zq6]
   refine wpQ_skip (by kernel_rfl) ?_
   try simp only [Act.put, zq4, zq5, zq6]
   refine wpQ_skip (by kernel_rfl) ?_
   try simp only [Act.put, zq4, zq5, zq6]
   refine wpQ_skip (by kernel_rfl) ?_
   try simp only [Act.put, zq4, zq5, zq6]
   refine wpQ_skip (by kernel_rfl) ?_
   try simp only [Act.put, zq4, zq5, zq6]
   refine wpQ_skip (by kernel_rfl) ?_
   try simp only [Act.put, zq4, zq5, zq6]
   refine wpQ_skip (by kernel_rfl) ?_
   try simp only [Act.put, zq4, zq5, zq6]
   refine wpQ_skip (by kernel_rfl) ?_
   try simp only [Act.put, zq4, zq5, zq6]
   refine wpQ_skip (by kernel_rfl) ?_
   try simp only [Act.put, zq4, zq5, zq6]
   refine wpQ_skip (by kernel_rfl) ?_
   try simp only [Act.put, zq4, zq5, zq6]
   refine wpQ_skip (by kernel_rfl) ?_
   try simp only [Act.put, zq4, zq5, zq6]
   refine wpQ_val (v := ?_) (by rfl) ?_ ?_
   rotate_left
   ·(intro w hSw; (try dsimp only at hSw); go_simp <;> (try with_reducible rfl))
   try simp only [Act.put, zq4, zq5, zq6]
   refine wpQuiet_nil ?_
   intro w2 O2
   have HO2 := Lib.hid O2
   clear O2
   go_wp2_with fail
   go_ret
   exact HEndN.out w2 HO2.out
  | true =>
   by_cases c24 : k = 24
   ·subst c24
    have HEndN := HEndN2.out (by rw [decide_eq_false]; intro h; exact absurd HLenB.out h.2.1)
    clear HEndN2
    have HQ : Hid (∀ W, Only (fun _ => False) w1 W → W.cell? ⟨g, n0 * 4 + 3, none⟩ = some (.slice a2 24 c2) ∧ True) := fun W o => ⟨HQ3.out W o, trivial⟩
    go_wp2_with fail
    refine wp_region_Q (fun w' => Only (fun _ => False) w1 w') (by kernel_rfl) (by kernel_rfl) (by exact (Only.refl _ _).drew) ?_
    refine wpQ_val (v := ?_) (by rfl) ?_ ?_
    rotate_left
    ·(intro w hSw; (try dsimp only at hSw); have q3 := (HQ.out w hSw).1; have q4 := (HQ.out w hSw).2; go_simp <;> (try with_reducible rfl))
    try simp only [Act.put, zq4, zq5, zq6]
    refine wpQ_val (v := ?_) (by rfl) ?_ ?_
    rotate_left
    ·(intro w hSw; (try dsimp only at hSw); have q3 := (HQ.out w hSw).1; have q4 := (HQ.out w hSw).2; go_simp <;> (try with_reducible rfl))
    try simp only [Act.put, zq4, zq5, zq6]
    refine wpQ_val (v := ?_) (by rfl) ?_ ?_
    rotate_left
    ·(intro w hSw; (try dsimp only at hSw); have q3 := (HQ.out w hSw).1; have q4 := (HQ.out w hSw).2; go_simp <;> (try with_reducible rfl))
    try simp only [Act.put, zq4, zq5, zq6]
    refine wpQ_val (v := ?_) (by rfl) ?_ ?_
    rotate_left
    ·(intro w hSw; (try dsimp only at hSw); have q3 := (HQ.out w hSw).1; have q4 := (HQ.out w hSw).2; go_simp <;> (try with_reducible rfl))
    try simp only [Act.put, zq4, zq5, zq6]
    refine wpQ_call (v := .bool true) (f := 78) (args := #[.string name]) (by rfl) ?_ ?_ ?_
    ·(intro w; go_simp <;> (try with_reducible rfl))
    ·(intro w hSw; exact (HN.out w).mono fun _ _ ⟨he, hw⟩ => ⟨he, hSw.same hw⟩)
    try simp only [Act.put, zq4, zq5, zq6]
    refine wpQ_val (v := ?_) (by rfl) ?_ ?_
    rotate_left
    ·(intro w hSw; (try dsimp only at hSw); have q3 := (HQ.out w hSw).1; have q4 := (HQ.out w hSw).2; go_simp <;> (try with_reducible rfl))
    try simp only [Act.put, zq4, zq5, zq6]
    refine wpQ_val (v := ?_) (by rfl) ?_ ?_
    rotate_left
    ·(intro w hSw; (try dsimp only at hSw); have q3 := (HQ.out w hSw).1; have q4 := (HQ.out w hSw).2; go_simp <;> (try with_reducible rfl))
    try simp only [Act.put, zq4, zq5, zq6]
    refine wpQ_val (v := ?_) (by rfl) ?_ ?_
    rotate_left
    ·(intro w hSw; (try dsimp only at hSw); have q3 := (HQ.out w hSw).1; have q4 := (HQ.out w hSw).2; go_simp <;> (try with_reducible rfl))
    try simp only [Act.put, zq4, zq5, zq6]
    refine wpQ_val (v := ?_) (by rfl) ?_ ?_
    rotate_left
    ·(intro w hSw; (try dsimp only at hSw); have q3 := (HQ.out w hSw).1; have q4 := (HQ.out w hSw).2; go_simp <;> (try with_reducible rfl))
    try simp only [Act.put, zq4, zq5, zq6]
    refine wpQ_val (v := ?_) (by rfl) ?_ ?_
    rotate_left
    ·(intro w hSw; (try dsimp only at hSw); have q3 := (HQ.out w hSw).1; have q4 := (HQ.out w hSw).2; go_simp <;> (try with_reducible rfl))
    try simp only [Act.put, zq4, zq5, zq6]
    refine wpQ_val (v := ?_) (by rfl) ?_ ?_
    rotate_left
    ·(intro w hSw; (try dsimp only at hSw); have q3 := (HQ.out w hSw).1; have q4 := (HQ.out w hSw).2; go_simp <;> (try with_reducible rfl))
    try simp only [Act.put, zq4, zq5, zq6]
    refine wpQ_val (v := ?_) (by rfl) ?_ ?_
    rotate_left
    ·(intro w hSw; (try dsimp only at hSw); have q3 := (HQ.out w hSw).1; have q4 := (HQ.out w hSw).2; go_simp <;> (try with_reducible rfl))
    try simp only [Act.put, zq4, zq5, zq6]
    refine wpQ_val (v := ?_) (by rfl) ?_ ?_
    rotate_left
    ·(intro w hSw; (try dsimp only at hSw); have q3 := (HQ.out w hSw).1; have q4 := (HQ.out w hSw).2; go_simp <;> (try with_reducible rfl))
    try simp only [Act.put, zq4, zq5, zq6]
    refine wpQ_val (v := ?_) (by rfl) ?_ ?_
    rotate_left
    ·(intro w hSw; (try dsimp only at hSw); have q3 := (HQ.out w hSw).1; have q4 := (HQ.out w hSw).2; go_simp <;> (try with_reducible rfl))
    try simp only [Act.put, zq4, zq5, zq6]
    refine wpQ_val (v := ?_) (by rfl) ?_ ?_
    rotate_left
    ·(intro w hSw; (try dsimp only at hSw); have q3 := (HQ.out w hSw).1; have q4 := (HQ.out w hSw).2; go_simp <;> (try with_reducible rfl))
    try simp only [Act.put, zq4, zq5, zq6]
    refine wpQ_val (v := ?_) (by rfl) ?_ ?_
    rotate_left
    ·(intro w hSw; (try dsimp only at hSw); have q3 := (HQ.out w hSw).1; have q4 := (HQ.out w hSw).2; go_simp <;> (try with_reducible rfl))
    try simp only [Act.put, zq4, zq5, zq6]
    refine wpQ_skip (by kernel_rfl) ?_
    try simp only [Act.put, zq4, zq5, zq6]
    refine wpQ_skip (by kernel_rfl) ?_
    try simp only [Act.put, zq4, zq5, zq6]
    refine wpQ_skip (by kernel_rfl) ?_
    try simp only [Act.put, zq4, zq5, zq6]
    refine wpQ_skip (by kernel_rfl) ?_
    try simp only [Act.put, zq4, zq5, zq6]
    refine wpQ_skip (by kernel_rfl) ?_
    try simp only [Act.put, zq4, zq5, zq6]
    refine wpQ_skip (by kernel_rfl) ?_
    try simp only [Act.put, zq4, zq5, zq6]
    refine wpQ_skip (by kernel_rfl) ?_
    try simp only [Act.put, zq4, zq5, zq6]
    refine wpQ_skip (by kernel_rfl) ?_
    try simp only [Act.put, zq4, zq5, zq6]
    refine wpQ_skip (by kernel_rfl) ?_
    try simp only [Act.put, zq4, zq5, zq6]
    refine wpQ_skip (by kernel_rfl) ?_
    try simp only [Act.put, zq4, zq5, zq6]
    refine wpQ_skip (by kernel_rfl) ?_
    try simp only [Act.put, zq4, zq5, zq6]
    refine wpQ_skip (by kernel_rfl) ?_
    try simp only [Act.put, zq4, zq5, zq6]
    refine wpQ_skip (by kernel_rfl) ?_
    try simp only [Act.put, zq4, zq5, zq6]
    refine wpQ_skip (by kernel_rfl) ?_
    try simp only [Act.put, zq4, zq5, zq6]
    refine wpQ_skip (by kernel_rfl) ?_
    try simp only [Act.put, zq4, zq5, zq6]
    refine wpQ_skip (by kernel_rfl) ?_
    try simp only [Act.put, zq4, zq5, zq6]
    refine wpQ_skip (by kernel_rfl) ?_
    try simp only [Act.put, zq4, zq5, zq6]
    refine wpQ_skip (by kernel_rfl) ?_
    try simp only [Act.put, zq4, zq5, zq6]
    refine wpQ_skip (by kernel_rfl) ?_
    try simp only [Act.put, zq4, zq5, zq6]
    refine wpQ_skip (by kernel_rfl) ?_
    try simp only [Act.put, zq4, zq5, zq6]
    refine wpQ_skip (by kernel_rfl) ?_
    try simp only [Act.put, zq4, zq5, zq6]
    refine wpQ_skip (by kernel_rfl) ?_
    try simp only [Act.put, zq4, zq5, zq6]
    refine wpQ_val (v := ?_) (by rfl) ?_ ?_
    rotate_left
    ·(intro w hSw; (try dsimp only at hSw); have q3 := (HQ.out w hSw).1; have q4 := (HQ.out w hSw).2; go_simp <;> (try with_reducible rfl))
    try simp only [Act.put, zq4, zq5, zq6]
    refine wpQuiet_nil ?_
    intro w2 O2
    have HO2 := Lib.hid O2
    clear O2
    go_wp2_with fail
    go_ret
    exact HEndN.out w2 HO2.out
   ·have c24' : ¬ ((k : Int) = 24) := by omega
    have b24 : ((k : Int) == 24) = false := by rw [beq_eq_false_iff_ne]; exact c24'
    by_cases ck : k = 0
    ·subst ck
     have hne : m.x.needs = [] := List.eq_nil_of_length_eq_zero HKn.out
     have HWy := Lib.hid (HWp.out true (by rw [decide_eq_true_eq]; exact ⟨HNa.out, by rw [HLenB.out]; exact c24, by show lastB (m.x.needs.map ByteArray.toList) _ = true; rw [hne]; rfl⟩))
     clear HEndN2 hne
     have HQ : Hid (∀ W, Only (fun _ => False) w1 W → W.cell? ⟨g, n0 * 4 + 3, none⟩ = some (.slice a2 0 c2) ∧ True) := fun W o => ⟨HQ3.out W o, trivial⟩
     go_wp2_with fail
     refine wp_region_Q (fun w' => Only (fun _ => False) w1 w') (by kernel_rfl) (by kernel_rfl) (by exact (Only.refl _ _).drew) ?_
     refine wpQ_val (v := ?_) (by rfl) ?_ ?_
     rotate_left
     ·(intro w hSw; (try dsimp only at hSw); have q3 := (HQ.out w hSw).1; have q4 := (HQ.out w hSw).2; go_simp <;> (try with_reducible rfl))
     try simp only [Act.put, zq4, zq5, zq6]
     refine wpQ_val (v := ?_) (by rfl) ?_ ?_
     rotate_left
     ·(intro w hSw; (try dsimp only at hSw); have q3 := (HQ.out w hSw).1; have q4 := (HQ.out w hSw).2; go_simp <;> (try with_reducible rfl))
     try simp only [Act.put, zq4, zq5, zq6]
     refine wpQ_val (v := ?_) (by rfl) ?_ ?_
     rotate_left
     ·(intro w hSw; (try dsimp only at hSw); have q3 := (HQ.out w hSw).1; have q4 := (HQ.out w hSw).2; go_simp <;> (try with_reducible rfl))
     try simp only [Act.put, zq4, zq5, zq6]
     refine wpQ_val (v := ?_) (by rfl) ?_ ?_
     rotate_left
     ·(intro w hSw; (try dsimp only at hSw); have q3 := (HQ.out w hSw).1; have q4 := (HQ.out w hSw).2; go_simp <;> (try with_reducible rfl))
     try simp only [Act.put, zq4, zq5, zq6]
     refine wpQ_call (v := .bool true) (f := 78) (args := #[.string name]) (by rfl) ?_ ?_ ?_
     ·(intro w; go_simp <;> (try with_reducible rfl))
     ·(intro w hSw; exact (HN.out w).mono fun _ _ ⟨he, hw⟩ => ⟨he, hSw.same hw⟩)
     try simp only [Act.put, zq4, zq5, zq6]
     refine wpQ_val (v := ?_) (by rfl) ?_ ?_
     rotate_left
     ·(intro w hSw; (try dsimp only at hSw); have q3 := (HQ.out w hSw).1; have q4 := (HQ.out w hSw).2; go_simp <;> (try with_reducible rfl))
     try simp only [Act.put, zq4, zq5, zq6]
     refine wpQ_val (v := ?_) (by rfl) ?_ ?_
     rotate_left
     ·(intro w hSw; (try dsimp only at hSw); have q3 := (HQ.out w hSw).1; have q4 := (HQ.out w hSw).2; go_simp <;> (try with_reducible rfl))
     try simp only [Act.put, zq4, zq5, zq6]
     refine wpQ_val (v := ?_) (by rfl) ?_ ?_
     rotate_left
     ·(intro w hSw; (try dsimp only at hSw); have q3 := (HQ.out w hSw).1; have q4 := (HQ.out w hSw).2; go_simp <;> (try with_reducible rfl))
     try simp only [Act.put, zq4, zq5, zq6]
     refine wpQ_val (v := ?_) (by rfl) ?_ ?_
     rotate_left
     ·(intro w hSw; (try dsimp only at hSw); have q3 := (HQ.out w hSw).1; have q4 := (HQ.out w hSw).2; go_simp <;> (try with_reducible rfl))
     try simp only [Act.put, zq4, zq5, zq6]
     refine wpQ_val (v := ?_) (by rfl) ?_ ?_
     rotate_left
     ·(intro w hSw; (try dsimp only at hSw); have q3 := (HQ.out w hSw).1; have q4 := (HQ.out w hSw).2; go_simp <;> (try with_reducible rfl))
     try simp only [Act.put, zq4, zq5, zq6]
     refine wpQ_val (v := ?_) (by rfl) ?_ ?_
     rotate_left
     ·(intro w hSw; (try dsimp only at hSw); have q3 := (HQ.out w hSw).1; have q4 := (HQ.out w hSw).2; go_simp <;> (try with_reducible rfl))
     try simp only [Act.put, zq4, zq5, zq6]
     refine wpQ_val (v := ?_) (by rfl) ?_ ?_
     rotate_left
     ·(intro w hSw; (try dsimp only at hSw); have q3 := (HQ.out w hSw).1; have q4 := (HQ.out w hSw).2; go_simp <;> (try with_reducible rfl))
     try simp only [Act.put, zq4, zq5, zq6]
     refine wpQ_val (v := ?_) (by rfl) ?_ ?_
     rotate_left
     ·(intro w hSw; (try dsimp only at hSw); have q3 := (HQ.out w hSw).1; have q4 := (HQ.out w hSw).2; go_simp <;> (try with_reducible rfl))
     try simp only [Act.put, zq4, zq5, zq6]
     refine wpQ_val (v := ?_) (by rfl) ?_ ?_
     rotate_left
     ·(intro w hSw; (try dsimp only at hSw); have q3 := (HQ.out w hSw).1; have q4 := (HQ.out w hSw).2; go_simp <;> (try with_reducible rfl))
     try simp only [Act.put, zq4, zq5, zq6]
     refine wpQ_val (v := ?_) (by rfl) ?_ ?_
     rotate_left
     ·(intro w hSw; (try dsimp only at hSw); have q3 := (HQ.out w hSw).1; have q4 := (HQ.out w hSw).2; go_simp <;> (try with_reducible rfl))
     try simp only [Act.put, zq4, zq5, zq6]
     refine wpQ_val (v := ?_) (by rfl) ?_ ?_
     rotate_left
     ·(intro w hSw; (try dsimp only at hSw); have q3 := (HQ.out w hSw).1; have q4 := (HQ.out w hSw).2; go_simp <;> (try with_reducible rfl))
     try simp only [Act.put, zq4, zq5, zq6]
     refine wpQ_val (v := ?_) (by rfl) ?_ ?_
     rotate_left
     ·(intro w hSw; (try dsimp only at hSw); have q3 := (HQ.out w hSw).1; have q4 := (HQ.out w hSw).2; go_simp <;> (try with_reducible rfl))
     try simp only [Act.put, zq4, zq5, zq6]
     refine wpQ_val (v := ?_) (by rfl) ?_ ?_
     rotate_left
     ·(intro w hSw; (try dsimp only at hSw); have q3 := (HQ.out w hSw).1; have q4 := (HQ.out w hSw).2; go_simp <;> (try with_reducible rfl))
     try simp only [Act.put, zq4, zq5, zq6]
     refine wpQ_val (v := ?_) (by rfl) ?_ ?_
     rotate_left
     ·(intro w hSw; (try dsimp only at hSw); have q3 := (HQ.out w hSw).1; have q4 := (HQ.out w hSw).2; go_simp <;> (try with_reducible rfl))
     try simp only [Act.put, zq4, zq5, zq6]
     refine wpQ_val (v := ?_) (by rfl) ?_ ?_
     rotate_left
     ·(intro w hSw; (try dsimp only at hSw); have q3 := (HQ.out w hSw).1; have q4 := (HQ.out w hSw).2; go_simp <;> (try with_reducible rfl))
     try simp only [Act.put, zq4, zq5, zq6]
     refine wpQ_val (v := ?_) (by rfl) ?_ ?_
     rotate_left
     ·(intro w hSw; (try dsimp only at hSw); have q3 := (HQ.out w hSw).1; have q4 := (HQ.out w hSw).2; go_simp <;> (try with_reducible rfl))
     try simp only [Act.put, zq4, zq5, zq6]
     refine wpQ_val (v := ?_) (by rfl) ?_ ?_
     rotate_left
     ·(intro w hSw; (try dsimp only at hSw); have q3 := (HQ.out w hSw).1; have q4 := (HQ.out w hSw).2; go_simp <;> (try with_reducible rfl))
     try simp only [Act.put, zq4, zq5, zq6]
     refine wpQ_val (v := ?_) (by rfl) ?_ ?_
     rotate_left
     ·(intro w hSw; (try dsimp only at hSw); have q3 := (HQ.out w hSw).1; have q4 := (HQ.out w hSw).2; go_simp <;> (try with_reducible rfl))
     try simp only [Act.put, zq4, zq5, zq6]
     refine wpQ_skip (by kernel_rfl) ?_
     try simp only [Act.put, zq4, zq5, zq6]
     refine wpQ_skip (by kernel_rfl) ?_
     try simp only [Act.put, zq4, zq5, zq6]
     refine wpQ_skip (by kernel_rfl) ?_
     try simp only [Act.put, zq4, zq5, zq6]
     refine wpQ_skip (by kernel_rfl) ?_
     try simp only [Act.put, zq4, zq5, zq6]
     refine wpQ_skip (by kernel_rfl) ?_
     try simp only [Act.put, zq4, zq5, zq6]
     refine wpQ_skip (by kernel_rfl) ?_
     try simp only [Act.put, zq4, zq5, zq6]
     refine wpQ_skip (by kernel_rfl) ?_
     try simp only [Act.put, zq4, zq5, zq6]
     refine wpQ_skip (by kernel_rfl) ?_
     try simp only [Act.put, zq4, zq5, zq6]
     refine wpQ_skip (by kernel_rfl) ?_
     try simp only [Act.put, zq4, zq5, zq6]
     refine wpQ_skip (by kernel_rfl) ?_
     try simp only [Act.put, zq4, zq5, zq6]
     refine wpQ_skip (by kernel_rfl) ?_
     try simp only [Act.put, zq4, zq5, zq6]
     refine wpQ_skip (by kernel_rfl) ?_
     try simp only [Act.put, zq4, zq5, zq6]
     refine wpQ_skip (by kernel_rfl) ?_
     try simp only [Act.put, zq4, zq5, zq6]
     refine wpQ_skip (by kernel_rfl) ?_
     try simp only [Act.put, zq4, zq5, zq6]
     refine wpQ_val (v := ?_) (by rfl) ?_ ?_
     rotate_left
     ·(intro w hSw; (try dsimp only at hSw); have q3 := (HQ.out w hSw).1; have q4 := (HQ.out w hSw).2; go_simp <;> (try with_reducible rfl))
     try simp only [Act.put, zq4, zq5, zq6]
     refine wpQ_val (v := ?_) (by rfl) ?_ ?_
     rotate_left
     ·(intro w hSw; (try dsimp only at hSw); have q3 := (HQ.out w hSw).1; have q4 := (HQ.out w hSw).2; go_simp <;> (try with_reducible rfl))
     try simp only [Act.put, zq4, zq5, zq6]
     refine wpQuiet_nil ?_
     intro w2 O2
     have HO2 := Lib.hid O2
     clear O2
     have q3 := (HQ.out w2 HO2.out).1
     have HR3 := Lib.hid (HRow.out.only0 ((HO1.out.same HO2.out).alloc (.cells #[.string name] 9)))
     have HO3 := Lib.hid ((HO1.out.same HO2.out).alloc (.cells #[.string name] 9))
     have hneeds := (HR3.out.each m (by simp)).needs
     rw [HV2.out, HKn.out] at hneeds
     have HNe := Lib.hid hneeds
     clear hneeds
     go_wp2_with (at_builtin; go_must (refine wpA1 (u := .string name) slStr9 rfl (.tmp 51) (.tmp 53) rfl rfl rfl (cell_new0 _ _ _) rfl HNe.out (by omega) (by decide) ?_))
     intro v4 w4 r1 r2 r3
     obtain ⟨g4, cap4, hv4, -, -, r3⟩ := r3
     subst hv4
     have r1' : w4.ownsRow 0 9 1 (.slice (some ⟨g4, 0, none⟩) (0 + 1) cap4) (m.x.needs.length + 1) (strs9 m.x.needs ++ [.string name]) := by rw [HKn.out]; exact r1
     have r2' : Only (fun j => m.v2.ownBlock = some j) (w2.alloc (.cells #[.string name] 9)) w4 := by rw [HV2.out, HKn.out]; exact r2
     have r3' : ∀ j, (Value.slice (some ⟨g4, 0, none⟩) (0 + 1) cap4).ownBlock = some j → m.v2.ownBlock = some j ∨ (w2.alloc (.cells #[.string name] 9)).heap.size ≤ j := fun j hj => by
      simp only [Value.ownBlock, Option.some.injEq] at hj
      subst hj
      rw [HV2.out, HKn.out]; exact r3
     have hB3 : B ≤ (w2.alloc (.cells #[.string name] 9)).heap.size := Nat.le_trans HBs.out HO3.out.size
     have hnd := HR3.out.need HN0.out HOk.out r1' r2' r3' hB3
     have c4 := hnd.2.2.1
     have f4 := hnd.2.2.2
     rw [HV2.out, HKn.out] at c4
     have HDone := Lib.hid (wants_done HBk.out HO3.out HR3.out HN0.out HOk.out r1' r2' r3' hB3 HWy.out)
     clear r1 r2 r3 r1' r2' r3' hB3 hnd q3
     go_wp2_with fail
     go_ret
     exact HDone.out
    ·obtain ⟨b2, c2', hv2', -, -⟩ := own_some (HRow.out.each m (by simp)).needs (by rw [HKn.out]; omega)
     obtain ⟨k', rfl⟩ : ∃ k', k = k' + 1 := ⟨k - 1, by omega⟩
     have hv2 := HV2.out
     rw [hv2', HKn.out] at hv2
     simp only [Value.slice.injEq] at hv2
     obtain ⟨rfl, -, rfl⟩ := hv2
     obtain ⟨y, hy⟩ : ∃ y, m.x.needs[k']? = some y := ⟨_, List.getElem?_eq_getElem (by rw [HKn.out]; omega)⟩
     have hl1 : m.x.needs.getLast? = some y := by rw [List.getLast?_eq_getElem?, HKn.out]; exact hy
     have hln : lastNeed m.x.toB name.toList = decide (y.toList < name.toList) := by
      show lastB (m.x.needs.map ByteArray.toList) name.toList = _
      unfold lastB
      rw [List.getLast?_map, hl1]; rfl
     have hy1 : ∀ W, Only (fun _ => False) w1 W → W.cell? ⟨b2, k', none⟩ = some (.string y) := fun W o => by
      have hnn := own_only (HRow.out.each m (by simp)).needs (HO1.out.same o) (fun _ _ f => f)
      rw [hv2', HKn.out] at hnn
      rw [hnn.cellAt k' (by omega)]
      show (m.x.needs.map Value.string)[k']? = _
      rw [List.getElem?_map, hy]; rfl
     have HQ : Hid (∀ W, Only (fun _ => False) w1 W → W.cell? ⟨g, n0 * 4 + 3, none⟩ = some (.slice (some ⟨b2, 0, none⟩) (k' + 1) c2') ∧ W.cell? ⟨b2, k', none⟩ = some (.string y)) := fun W o => ⟨HQ3.out W o, hy1 W o⟩
     have ewk : IntKind.i64.wrap ((k' : Int) + 1 - 1) = (k' : Int) := by rw [IntKind.wrap_i64]; omega
     have ewk2 : IntKind.i64.wrap (k' : Int) = (k' : Int) := by rw [IntKind.wrap_i64]; omega
     have hk0 : (0 : Int) < (k' : Int) + 1 := by omega
     have hkk : (k' : Int) < (k' : Int) + 1 := by omega
     have b24' : ((k' : Int) + 1 == 24) = false := by rw [beq_eq_false_iff_ne]; omega
     have HLn := Lib.hid hln
     clear hln hl1 hy hy1 hv2'
     cases hlt : decide (y.toList < name.toList) with
     | false =>
      have HEndN := HEndN2.out (by rw [decide_eq_false]; intro h; rw [HLn.out, hlt] at h; exact absurd h.2.2 (by decide))
      have hbl : Op.bytesLess y.toList name.toList = false := by rw [bytesLess_x, hlt]
      clear HEndN2 hlt
      go_wp2_with fail
      refine wp_region_Q (fun w' => Only (fun _ => False) w1 w') (by kernel_rfl) (by kernel_rfl) (by exact (Only.refl _ _).drew) ?_
      refine wpQ_val (v := ?_) (by rfl) ?_ ?_
      rotate_left
      ·(intro w hSw; (try dsimp only at hSw); have q3 := (HQ.out w hSw).1; have q4 := (HQ.out w hSw).2; go_simp <;> (try with_reducible rfl))
      try simp only [Act.put, zq4, zq5, zq6]
      refine wpQ_val (v := ?_) (by rfl) ?_ ?_
      rotate_left
      ·(intro w hSw; (try dsimp only at hSw); have q3 := (HQ.out w hSw).1; have q4 := (HQ.out w hSw).2; go_simp <;> (try with_reducible rfl))
      try simp only [Act.put, zq4, zq5, zq6]
      refine wpQ_val (v := ?_) (by rfl) ?_ ?_
      rotate_left
      ·(intro w hSw; (try dsimp only at hSw); have q3 := (HQ.out w hSw).1; have q4 := (HQ.out w hSw).2; go_simp <;> (try with_reducible rfl))
      try simp only [Act.put, zq4, zq5, zq6]
      refine wpQ_val (v := ?_) (by rfl) ?_ ?_
      rotate_left
      ·(intro w hSw; (try dsimp only at hSw); have q3 := (HQ.out w hSw).1; have q4 := (HQ.out w hSw).2; go_simp <;> (try with_reducible rfl))
      try simp only [Act.put, zq4, zq5, zq6]
      refine wpQ_call (v := .bool true) (f := 78) (args := #[.string name]) (by rfl) ?_ ?_ ?_
      ·(intro w; go_simp <;> (try with_reducible rfl))
      ·(intro w hSw; exact (HN.out w).mono fun _ _ ⟨he, hw⟩ => ⟨he, hSw.same hw⟩)
      try simp only [Act.put, zq4, zq5, zq6]
      refine wpQ_val (v := ?_) (by rfl) ?_ ?_
      rotate_left
      ·(intro w hSw; (try dsimp only at hSw); have q3 := (HQ.out w hSw).1; have q4 := (HQ.out w hSw).2; go_simp <;> (try with_reducible rfl))
      try simp only [Act.put, zq4, zq5, zq6]
      refine wpQ_val (v := ?_) (by rfl) ?_ ?_
      rotate_left
      ·(intro w hSw; (try dsimp only at hSw); have q3 := (HQ.out w hSw).1; have q4 := (HQ.out w hSw).2; go_simp <;> (try with_reducible rfl))
      try simp only [Act.put, zq4, zq5, zq6]
      refine wpQ_val (v := ?_) (by rfl) ?_ ?_
      rotate_left
      ·(intro w hSw; (try dsimp only at hSw); have q3 := (HQ.out w hSw).1; have q4 := (HQ.out w hSw).2; go_simp <;> (try with_reducible rfl))
      try simp only [Act.put, zq4, zq5, zq6]
      refine wpQ_val (v := ?_) (by rfl) ?_ ?_
      rotate_left
      ·(intro w hSw; (try dsimp only at hSw); have q3 := (HQ.out w hSw).1; have q4 := (HQ.out w hSw).2; go_simp <;> (try with_reducible rfl))
      try simp only [Act.put, zq4, zq5, zq6]
      refine wpQ_val (v := ?_) (by rfl) ?_ ?_
      rotate_left
      ·(intro w hSw; (try dsimp only at hSw); have q3 := (HQ.out w hSw).1; have q4 := (HQ.out w hSw).2; go_simp <;> (try with_reducible rfl))
      try simp only [Act.put, zq4, zq5, zq6]
      refine wpQ_val (v := ?_) (by rfl) ?_ ?_
      rotate_left
      ·(intro w hSw; (try dsimp only at hSw); have q3 := (HQ.out w hSw).1; have q4 := (HQ.out w hSw).2; go_simp <;> (try with_reducible rfl))
      try simp only [Act.put, zq4, zq5, zq6]
      refine wpQ_val (v := ?_) (by rfl) ?_ ?_
      rotate_left
      ·(intro w hSw; (try dsimp only at hSw); have q3 := (HQ.out w hSw).1; have q4 := (HQ.out w hSw).2; go_simp <;> (try with_reducible rfl))
      try simp only [Act.put, zq4, zq5, zq6]
      refine wpQ_val (v := ?_) (by rfl) ?_ ?_
      rotate_left
      ·(intro w hSw; (try dsimp only at hSw); have q3 := (HQ.out w hSw).1; have q4 := (HQ.out w hSw).2; go_simp <;> (try with_reducible rfl))
      try simp only [Act.put, zq4, zq5, zq6]
      refine wpQ_val (v := ?_) (by rfl) ?_ ?_
      rotate_left
      ·(intro w hSw; (try dsimp only at hSw); have q3 := (HQ.out w hSw).1; have q4 := (HQ.out w hSw).2; go_simp <;> (try with_reducible rfl))
      try simp only [Act.put, zq4, zq5, zq6]
      refine wpQ_val (v := ?_) (by rfl) ?_ ?_
      rotate_left
      ·(intro w hSw; (try dsimp only at hSw); have q3 := (HQ.out w hSw).1; have q4 := (HQ.out w hSw).2; go_simp <;> (try with_reducible rfl))
      try simp only [Act.put, zq4, zq5, zq6]
      refine wpQ_val (v := ?_) (by rfl) ?_ ?_
      rotate_left
      ·(intro w hSw; (try dsimp only at hSw); have q3 := (HQ.out w hSw).1; have q4 := (HQ.out w hSw).2; go_simp <;> (try with_reducible rfl))
      try simp only [Act.put, zq4, zq5, zq6]
      refine wpQ_val (v := ?_) (by rfl) ?_ ?_
      rotate_left
      ·(intro w hSw; (try dsimp only at hSw); have q3 := (HQ.out w hSw).1; have q4 := (HQ.out w hSw).2; go_simp <;> (try with_reducible rfl))
      try simp only [Act.put, zq4, zq5, zq6]
      refine wpQ_val (v := ?_) (by rfl) ?_ ?_
      rotate_left
      ·(intro w hSw; (try dsimp only at hSw); have q3 := (HQ.out w hSw).1; have q4 := (HQ.out w hSw).2; go_simp <;> (try with_reducible rfl))
      try simp only [Act.put, zq4, zq5, zq6]
      refine wpQ_val (v := ?_) (by rfl) ?_ ?_
      rotate_left
      ·(intro w hSw; (try dsimp only at hSw); have q3 := (HQ.out w hSw).1; have q4 := (HQ.out w hSw).2; go_simp <;> (try with_reducible rfl))
      try simp only [Act.put, zq4, zq5, zq6]
      refine wpQ_val (v := ?_) (by rfl) ?_ ?_
      rotate_left
      ·(intro w hSw; (try dsimp only at hSw); have q3 := (HQ.out w hSw).1; have q4 := (HQ.out w hSw).2; go_simp <;> (try with_reducible rfl))
      try simp only [Act.put, zq4, zq5, zq6]
      refine wpQ_val (v := ?_) (by rfl) ?_ ?_
      rotate_left
      ·(intro w hSw; (try dsimp only at hSw); have q3 := (HQ.out w hSw).1; have q4 := (HQ.out w hSw).2; go_simp <;> (try with_reducible rfl))
      try simp only [Act.put, zq4, zq5, zq6]
      refine wpQ_val (v := ?_) (by rfl) ?_ ?_
      rotate_left
      ·(intro w hSw; (try dsimp only at hSw); have q3 := (HQ.out w hSw).1; have q4 := (HQ.out w hSw).2; go_simp <;> (try with_reducible rfl))
      try simp only [Act.put, zq4, zq5, zq6]
      refine wpQ_val (v := ?_) (by rfl) ?_ ?_
      rotate_left
      ·(intro w hSw; (try dsimp only at hSw); have q3 := (HQ.out w hSw).1; have q4 := (HQ.out w hSw).2; go_simp <;> (try with_reducible rfl))
      try simp only [Act.put, zq4, zq5, zq6]
      refine wpQ_val (v := ?_) (by rfl) ?_ ?_
      rotate_left
      ·(intro w hSw; (try dsimp only at hSw); have q3 := (HQ.out w hSw).1; have q4 := (HQ.out w hSw).2; go_simp <;> (try with_reducible rfl))
      try simp only [Act.put, zq4, zq5, zq6]
      refine wpQ_val (v := ?_) (by rfl) ?_ ?_
      rotate_left
      ·(intro w hSw; (try dsimp only at hSw); have q3 := (HQ.out w hSw).1; have q4 := (HQ.out w hSw).2; go_simp <;> (try with_reducible rfl))
      try simp only [Act.put, zq4, zq5, zq6]
      refine wpQ_val (v := ?_) (by rfl) ?_ ?_
      rotate_left
      ·(intro w hSw; (try dsimp only at hSw); have q3 := (HQ.out w hSw).1; have q4 := (HQ.out w hSw).2; go_simp <;> (try with_reducible rfl))
      try simp only [Act.put, zq4, zq5, zq6]
      refine wpQ_val (v := ?_) (by rfl) ?_ ?_
      rotate_left
      ·(intro w hSw; (try dsimp only at hSw); have q3 := (HQ.out w hSw).1; have q4 := (HQ.out w hSw).2; go_simp <;> (try with_reducible rfl))
      try simp only [Act.put, zq4, zq5, zq6]
      refine wpQ_val (v := ?_) (by rfl) ?_ ?_
      rotate_left
      ·(intro w hSw; (try dsimp only at hSw); have q3 := (HQ.out w hSw).1; have q4 := (HQ.out w hSw).2; go_simp <;> (try with_reducible rfl))
      try simp only [Act.put, zq4, zq5, zq6]
      refine wpQ_val (v := ?_) (by rfl) ?_ ?_
      rotate_left
      ·(intro w hSw; (try dsimp only at hSw); have q3 := (HQ.out w hSw).1; have q4 := (HQ.out w hSw).2; go_simp <;> (try with_reducible rfl))
      try simp only [Act.put, zq4, zq5, zq6]
      refine wpQ_val (v := ?_) (by rfl) ?_ ?_
      rotate_left
      ·(intro w hSw; (try dsimp only at hSw); have q3 := (HQ.out w hSw).1; have q4 := (HQ.out w hSw).2; go_simp <;> (try with_reducible rfl))
      try simp only [Act.put, zq4, zq5, zq6]
      refine wpQ_val (v := ?_) (by rfl) ?_ ?_
      rotate_left
      ·(intro w hSw; (try dsimp only at hSw); have q3 := (HQ.out w hSw).1; have q4 := (HQ.out w hSw).2; go_simp <;> (try with_reducible rfl))
      try simp only [Act.put, zq4, zq5, zq6]
      refine wpQ_val (v := ?_) (by rfl) ?_ ?_
      rotate_left
      ·(intro w hSw; (try dsimp only at hSw); have q3 := (HQ.out w hSw).1; have q4 := (HQ.out w hSw).2; go_simp <;> (try with_reducible rfl))
      try simp only [Act.put, zq4, zq5, zq6]
      refine wpQ_val (v := ?_) (by rfl) ?_ ?_
      rotate_left
      ·(intro w hSw; (try dsimp only at hSw); have q3 := (HQ.out w hSw).1; have q4 := (HQ.out w hSw).2; go_simp <;> (try with_reducible rfl))
      try simp only [Act.put, zq4, zq5, zq6]
      refine wpQ_val (v := ?_) (by rfl) ?_ ?_
      rotate_left
      ·(intro w hSw; (try dsimp only at hSw); have q3 := (HQ.out w hSw).1; have q4 := (HQ.out w hSw).2; go_simp <;> (try with_reducible rfl))
      try simp only [Act.put, zq4, zq5, zq6]
      refine wpQ_val (v := ?_) (by rfl) ?_ ?_
      rotate_left
      ·(intro w hSw; (try dsimp only at hSw); have q3 := (HQ.out w hSw).1; have q4 := (HQ.out w hSw).2; go_simp <;> (try with_reducible rfl))
      try simp only [Act.put, zq4, zq5, zq6]
      refine wpQ_val (v := ?_) (by rfl) ?_ ?_
      rotate_left
      ·(intro w hSw; (try dsimp only at hSw); have q3 := (HQ.out w hSw).1; have q4 := (HQ.out w hSw).2; go_simp <;> (try with_reducible rfl))
      try simp only [Act.put, zq4, zq5, zq6]
      refine wpQ_val (v := ?_) (by rfl) ?_ ?_
      rotate_left
      ·(intro w hSw; (try dsimp only at hSw); have q3 := (HQ.out w hSw).1; have q4 := (HQ.out w hSw).2; go_simp <;> (try with_reducible rfl))
      try simp only [Act.put, zq4, zq5, zq6]
      refine wpQ_val (v := ?_) (by rfl) ?_ ?_
      rotate_left
      ·(intro w hSw; (try dsimp only at hSw); have q3 := (HQ.out w hSw).1; have q4 := (HQ.out w hSw).2; go_simp <;> (try with_reducible rfl))
      try simp only [Act.put, zq4, zq5, zq6]
      refine wpQ_val (v := ?_) (by rfl) ?_ ?_
      rotate_left
      ·(intro w hSw; (try dsimp only at hSw); have q3 := (HQ.out w hSw).1; have q4 := (HQ.out w hSw).2; go_simp <;> (try with_reducible rfl))
      try simp only [Act.put, zq4, zq5, zq6]
      refine wpQuiet_nil ?_
      intro w2 O2
      have HO2 := Lib.hid O2
      clear O2
      go_wp2_with fail
      go_ret
      exact HEndN.out w2 HO2.out
     | true =>
      have HWy := Lib.hid (HWp.out true (by rw [decide_eq_true_eq]; exact ⟨HNa.out, by rw [HLenB.out]; exact c24, by rw [HLn.out, hlt]⟩))
      have hbl : Op.bytesLess y.toList name.toList = true := by rw [bytesLess_x, hlt]
      clear HEndN2 hlt
      go_wp2_with fail
      refine wp_region_Q (fun w' => Only (fun _ => False) w1 w') (by kernel_rfl) (by kernel_rfl) (by exact (Only.refl _ _).drew) ?_
      refine wpQ_val (v := ?_) (by rfl) ?_ ?_
      rotate_left
      ·(intro w hSw; (try dsimp only at hSw); have q3 := (HQ.out w hSw).1; have q4 := (HQ.out w hSw).2; go_simp <;> (try with_reducible rfl))
      try simp only [Act.put, zq4, zq5, zq6]
      refine wpQ_val (v := ?_) (by rfl) ?_ ?_
      rotate_left
      ·(intro w hSw; (try dsimp only at hSw); have q3 := (HQ.out w hSw).1; have q4 := (HQ.out w hSw).2; go_simp <;> (try with_reducible rfl))
      try simp only [Act.put, zq4, zq5, zq6]
      refine wpQ_val (v := ?_) (by rfl) ?_ ?_
      rotate_left
      ·(intro w hSw; (try dsimp only at hSw); have q3 := (HQ.out w hSw).1; have q4 := (HQ.out w hSw).2; go_simp <;> (try with_reducible rfl))
      try simp only [Act.put, zq4, zq5, zq6]
      refine wpQ_val (v := ?_) (by rfl) ?_ ?_
      rotate_left
      ·(intro w hSw; (try dsimp only at hSw); have q3 := (HQ.out w hSw).1; have q4 := (HQ.out w hSw).2; go_simp <;> (try with_reducible rfl))
      try simp only [Act.put, zq4, zq5, zq6]
      refine wpQ_call (v := .bool true) (f := 78) (args := #[.string name]) (by rfl) ?_ ?_ ?_
      ·(intro w; go_simp <;> (try with_reducible rfl))
      ·(intro w hSw; exact (HN.out w).mono fun _ _ ⟨he, hw⟩ => ⟨he, hSw.same hw⟩)
      try simp only [Act.put, zq4, zq5, zq6]
      refine wpQ_val (v := ?_) (by rfl) ?_ ?_
      rotate_left
      ·(intro w hSw; (try dsimp only at hSw); have q3 := (HQ.out w hSw).1; have q4 := (HQ.out w hSw).2; go_simp <;> (try with_reducible rfl))
      try simp only [Act.put, zq4, zq5, zq6]
      refine wpQ_val (v := ?_) (by rfl) ?_ ?_
      rotate_left
      ·(intro w hSw; (try dsimp only at hSw); have q3 := (HQ.out w hSw).1; have q4 := (HQ.out w hSw).2; go_simp <;> (try with_reducible rfl))
      try simp only [Act.put, zq4, zq5, zq6]
      refine wpQ_val (v := ?_) (by rfl) ?_ ?_
      rotate_left
      ·(intro w hSw; (try dsimp only at hSw); have q3 := (HQ.out w hSw).1; have q4 := (HQ.out w hSw).2; go_simp <;> (try with_reducible rfl))
      try simp only [Act.put, zq4, zq5, zq6]
      refine wpQ_val (v := ?_) (by rfl) ?_ ?_
      rotate_left
      ·(intro w hSw; (try dsimp only at hSw); have q3 := (HQ.out w hSw).1; have q4 := (HQ.out w hSw).2; go_simp <;> (try with_reducible rfl))
      try simp only [Act.put, zq4, zq5, zq6]
      refine wpQ_val (v := ?_) (by rfl) ?_ ?_
      rotate_left
      ·(intro w hSw; (try dsimp only at hSw); have q3 := (HQ.out w hSw).1; have q4 := (HQ.out w hSw).2; go_simp <;> (try with_reducible rfl))
      try simp only [Act.put, zq4, zq5, zq6]
      refine wpQ_val (v := ?_) (by rfl) ?_ ?_
      rotate_left
      ·(intro w hSw; (try dsimp only at hSw); have q3 := (HQ.out w hSw).1; have q4 := (HQ.out w hSw).2; go_simp <;> (try with_reducible rfl))
      try simp only [Act.put, zq4, zq5, zq6]
      refine wpQ_val (v := ?_) (by rfl) ?_ ?_
      rotate_left
      ·(intro w hSw; (try dsimp only at hSw); have q3 := (HQ.out w hSw).1; have q4 := (HQ.out w hSw).2; go_simp <;> (try with_reducible rfl))
      try simp only [Act.put, zq4, zq5, zq6]
      refine wpQ_val (v := ?_) (by rfl) ?_ ?_
      rotate_left
      ·(intro w hSw; (try dsimp only at hSw); have q3 := (HQ.out w hSw).1; have q4 := (HQ.out w hSw).2; go_simp <;> (try with_reducible rfl))
      try simp only [Act.put, zq4, zq5, zq6]
      refine wpQ_val (v := ?_) (by rfl) ?_ ?_
      rotate_left
      ·(intro w hSw; (try dsimp only at hSw); have q3 := (HQ.out w hSw).1; have q4 := (HQ.out w hSw).2; go_simp <;> (try with_reducible rfl))
      try simp only [Act.put, zq4, zq5, zq6]
      refine wpQ_val (v := ?_) (by rfl) ?_ ?_
      rotate_left
      ·(intro w hSw; (try dsimp only at hSw); have q3 := (HQ.out w hSw).1; have q4 := (HQ.out w hSw).2; go_simp <;> (try with_reducible rfl))
      try simp only [Act.put, zq4, zq5, zq6]
      refine wpQ_val (v := ?_) (by rfl) ?_ ?_
      rotate_left
      ·(intro w hSw; (try dsimp only at hSw); have q3 := (HQ.out w hSw).1; have q4 := (HQ.out w hSw).2; go_simp <;> (try with_reducible rfl))
      try simp only [Act.put, zq4, zq5, zq6]
      refine wpQ_val (v := ?_) (by rfl) ?_ ?_
      rotate_left
      ·(intro w hSw; (try dsimp only at hSw); have q3 := (HQ.out w hSw).1; have q4 := (HQ.out w hSw).2; go_simp <;> (try with_reducible rfl))
      try simp only [Act.put, zq4, zq5, zq6]
      refine wpQ_val (v := ?_) (by rfl) ?_ ?_
      rotate_left
      ·(intro w hSw; (try dsimp only at hSw); have q3 := (HQ.out w hSw).1; have q4 := (HQ.out w hSw).2; go_simp <;> (try with_reducible rfl))
      try simp only [Act.put, zq4, zq5, zq6]
      refine wpQ_val (v := ?_) (by rfl) ?_ ?_
      rotate_left
      ·(intro w hSw; (try dsimp only at hSw); have q3 := (HQ.out w hSw).1; have q4 := (HQ.out w hSw).2; go_simp <;> (try with_reducible rfl))
      try simp only [Act.put, zq4, zq5, zq6]
      refine wpQ_val (v := ?_) (by rfl) ?_ ?_
      rotate_left
      ·(intro w hSw; (try dsimp only at hSw); have q3 := (HQ.out w hSw).1; have q4 := (HQ.out w hSw).2; go_simp <;> (try with_reducible rfl))
      try simp only [Act.put, zq4, zq5, zq6]
      refine wpQ_val (v := ?_) (by rfl) ?_ ?_
      rotate_left
      ·(intro w hSw; (try dsimp only at hSw); have q3 := (HQ.out w hSw).1; have q4 := (HQ.out w hSw).2; go_simp <;> (try with_reducible rfl))
      try simp only [Act.put, zq4, zq5, zq6]
      refine wpQ_val (v := ?_) (by rfl) ?_ ?_
      rotate_left
      ·(intro w hSw; (try dsimp only at hSw); have q3 := (HQ.out w hSw).1; have q4 := (HQ.out w hSw).2; go_simp <;> (try with_reducible rfl))
      try simp only [Act.put, zq4, zq5, zq6]
      refine wpQ_val (v := ?_) (by rfl) ?_ ?_
      rotate_left
      ·(intro w hSw; (try dsimp only at hSw); have q3 := (HQ.out w hSw).1; have q4 := (HQ.out w hSw).2; go_simp <;> (try with_reducible rfl))
      try simp only [Act.put, zq4, zq5, zq6]
      refine wpQ_val (v := ?_) (by rfl) ?_ ?_
      rotate_left
      ·(intro w hSw; (try dsimp only at hSw); have q3 := (HQ.out w hSw).1; have q4 := (HQ.out w hSw).2; go_simp <;> (try with_reducible rfl))
      try simp only [Act.put, zq4, zq5, zq6]
      refine wpQ_val (v := ?_) (by rfl) ?_ ?_
      rotate_left
      ·(intro w hSw; (try dsimp only at hSw); have q3 := (HQ.out w hSw).1; have q4 := (HQ.out w hSw).2; go_simp <;> (try with_reducible rfl))
      try simp only [Act.put, zq4, zq5, zq6]
      refine wpQ_val (v := ?_) (by rfl) ?_ ?_
      rotate_left
      ·(intro w hSw; (try dsimp only at hSw); have q3 := (HQ.out w hSw).1; have q4 := (HQ.out w hSw).2; go_simp <;> (try with_reducible rfl))
      try simp only [Act.put, zq4, zq5, zq6]
      refine wpQ_val (v := ?_) (by rfl) ?_ ?_
      rotate_left
      ·(intro w hSw; (try dsimp only at hSw); have q3 := (HQ.out w hSw).1; have q4 := (HQ.out w hSw).2; go_simp <;> (try with_reducible rfl))
      try simp only [Act.put, zq4, zq5, zq6]
      refine wpQ_val (v := ?_) (by rfl) ?_ ?_
      rotate_left
      ·(intro w hSw; (try dsimp only at hSw); have q3 := (HQ.out w hSw).1; have q4 := (HQ.out w hSw).2; go_simp <;> (try with_reducible rfl))
      try simp only [Act.put, zq4, zq5, zq6]
      refine wpQ_val (v := ?_) (by rfl) ?_ ?_
      rotate_left
      ·(intro w hSw; (try dsimp only at hSw); have q3 := (HQ.out w hSw).1; have q4 := (HQ.out w hSw).2; go_simp <;> (try with_reducible rfl))
      try simp only [Act.put, zq4, zq5, zq6]
      refine wpQ_val (v := ?_) (by rfl) ?_ ?_
      rotate_left
      ·(intro w hSw; (try dsimp only at hSw); have q3 := (HQ.out w hSw).1; have q4 := (HQ.out w hSw).2; go_simp <;> (try with_reducible rfl))
      try simp only [Act.put, zq4, zq5, zq6]
      refine wpQ_val (v := ?_) (by rfl) ?_ ?_
      rotate_left
      ·(intro w hSw; (try dsimp only at hSw); have q3 := (HQ.out w hSw).1; have q4 := (HQ.out w hSw).2; go_simp <;> (try with_reducible rfl))
      try simp only [Act.put, zq4, zq5, zq6]
      refine wpQ_val (v := ?_) (by rfl) ?_ ?_
      rotate_left
      ·(intro w hSw; (try dsimp only at hSw); have q3 := (HQ.out w hSw).1; have q4 := (HQ.out w hSw).2; go_simp <;> (try with_reducible rfl))
      try simp only [Act.put, zq4, zq5, zq6]
      refine wpQ_val (v := ?_) (by rfl) ?_ ?_
      rotate_left
      ·(intro w hSw; (try dsimp only at hSw); have q3 := (HQ.out w hSw).1; have q4 := (HQ.out w hSw).2; go_simp <;> (try with_reducible rfl))
      try simp only [Act.put, zq4, zq5, zq6]
      refine wpQ_val (v := ?_) (by rfl) ?_ ?_
      rotate_left
      ·(intro w hSw; (try dsimp only at hSw); have q3 := (HQ.out w hSw).1; have q4 := (HQ.out w hSw).2; go_simp <;> (try with_reducible rfl))
      try simp only [Act.put, zq4, zq5, zq6]
      refine wpQ_val (v := ?_) (by rfl) ?_ ?_
      rotate_left
      ·(intro w hSw; (try dsimp only at hSw); have q3 := (HQ.out w hSw).1; have q4 := (HQ.out w hSw).2; go_simp <;> (try with_reducible rfl))
      try simp only [Act.put, zq4, zq5, zq6]
      refine wpQ_val (v := ?_) (by rfl) ?_ ?_
      rotate_left
      ·(intro w hSw; (try dsimp only at hSw); have q3 := (HQ.out w hSw).1; have q4 := (HQ.out w hSw).2; go_simp <;> (try with_reducible rfl))
      try simp only [Act.put, zq4, zq5, zq6]
      refine wpQ_val (v := ?_) (by rfl) ?_ ?_
      rotate_left
      ·(intro w hSw; (try dsimp only at hSw); have q3 := (HQ.out w hSw).1; have q4 := (HQ.out w hSw).2; go_simp <;> (try with_reducible rfl))
      try simp only [Act.put, zq4, zq5, zq6]
      refine wpQ_val (v := ?_) (by rfl) ?_ ?_
      rotate_left
      ·(intro w hSw; (try dsimp only at hSw); have q3 := (HQ.out w hSw).1; have q4 := (HQ.out w hSw).2; go_simp <;> (try with_reducible rfl))
      try simp only [Act.put, zq4, zq5, zq6]
      refine wpQ_val (v := ?_) (by rfl) ?_ ?_
      rotate_left
      ·(intro w hSw; (try dsimp only at hSw); have q3 := (HQ.out w hSw).1; have q4 := (HQ.out w hSw).2; go_simp <;> (try with_reducible rfl))
      try simp only [Act.put, zq4, zq5, zq6]
      refine wpQuiet_nil ?_
      intro w2 O2
      have HO2 := Lib.hid O2
      clear O2
      have q3 := (HQ.out w2 HO2.out).1
      have HR3 := Lib.hid (HRow.out.only0 ((HO1.out.same HO2.out).alloc (.cells #[.string name] 9)))
      have HO3 := Lib.hid ((HO1.out.same HO2.out).alloc (.cells #[.string name] 9))
      have hneeds := (HR3.out.each m (by simp)).needs
      rw [HV2.out, HKn.out] at hneeds
      have HNe := Lib.hid hneeds
      clear hneeds
      go_wp2_with (at_builtin; go_must (refine wpA1 (u := .string name) slStr9 rfl (.tmp 51) (.tmp 53) rfl rfl rfl (cell_new0 _ _ _) rfl HNe.out (by omega) (by decide) ?_))
      intro v4 w4 r1 r2 r3
      obtain ⟨g4, cap4, hv4, -, -, r3⟩ := r3
      subst hv4
      have r1' : w4.ownsRow 0 9 1 (.slice (some ⟨g4, 0, none⟩) ((k' + 1) + 1) cap4) (m.x.needs.length + 1) (strs9 m.x.needs ++ [.string name]) := by rw [HKn.out]; exact r1
      have r2' : Only (fun j => m.v2.ownBlock = some j) (w2.alloc (.cells #[.string name] 9)) w4 := by rw [HV2.out, HKn.out]; exact r2
      have r3' : ∀ j, (Value.slice (some ⟨g4, 0, none⟩) ((k' + 1) + 1) cap4).ownBlock = some j → m.v2.ownBlock = some j ∨ (w2.alloc (.cells #[.string name] 9)).heap.size ≤ j := fun j hj => by
       simp only [Value.ownBlock, Option.some.injEq] at hj
       subst hj
       rw [HV2.out, HKn.out]; exact r3
      have hB3 : B ≤ (w2.alloc (.cells #[.string name] 9)).heap.size := Nat.le_trans HBs.out HO3.out.size
      have hnd := HR3.out.need HN0.out HOk.out r1' r2' r3' hB3
      have c4 := hnd.2.2.1
      have f4 := hnd.2.2.2
      rw [HV2.out, HKn.out] at c4
      have HDone := Lib.hid (wants_done HBk.out HO3.out HR3.out HN0.out HOk.out r1' r2' r3' hB3 HWy.out)
      clear r1 r2 r3 r1' r2' r3' hB3 hnd q3
      go_wp2_with fail
      go_ret
      exact HDone.out
end
end Go.Proofs.YtmlfchjompfmaaaDoor

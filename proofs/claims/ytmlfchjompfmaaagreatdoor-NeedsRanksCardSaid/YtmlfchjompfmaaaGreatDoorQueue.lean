/- A row that is taken from its head and appended to: 'xs = xs[1:]', 'xs = append(xs, u)' (elements of one cell). -/
import Derived.Test.YtmlfchjompfmaaaGreatDoorBase
import Derived.ArgAppend
set_option linter.unusedVariables false
namespace Go.Proofs.YtmlfchjompfmaaaGreatDoor
open Go.RowKit
theorem own_base0 {w : World} {base : Nat} {e : TypeId} {size : Nat} {v : Value} {n : Nat} {xs : List Value} (h : w.ownsRow base e size v n xs) : w.ownsRow 0 e size v n xs :=
 ⟨h.1, h.2.imp id fun ⟨g, cap, cur, a, _, c⟩ => ⟨g, cap, cur, a, Nat.zero_le _, c⟩⟩
def QRow (w : World) (e : TypeId) (v : Value) (us : List Value) : Prop :=
 (v = nilS ∧ us = []) ∨ ∃ g o cap cur, v = .slice (some ⟨g, o, none⟩) us.length cap ∧ w.heap[g]? = some (.cells cur e (0, 0)) ∧ us.length ≤ cap ∧ cap ≤ maxLen ∧ (∀ j, j < cap → o + j < cur.size) ∧ ∀ j u, us[j]? = some u → cur[o + j]? = some u
theorem QRow.of_own {w : World} {e : TypeId} {v : Value} {us : List Value} (h : w.ownsRow 0 e 1 v us.length us) : QRow w e v us := by
 rcases h.2 with ⟨rfl, h2⟩ | ⟨g, cap, cur, rfl, _, hg, h1, h2, h3, h4⟩
 ·exact .inl ⟨rfl, List.eq_nil_of_length_eq_zero h2⟩
 ·refine .inr ⟨g, 0, cap, cur, rfl, hg, h1, h2, fun j hj => by omega, fun j u hu => ?_⟩
  have hj := (List.getElem?_eq_some_iff.1 hu).1
  rw [← h4, Nat.mul_one, List.getElem?_take, if_pos hj] at hu
  rw [Nat.zero_add, ← hu, Array.getElem?_toList]
theorem QRow.only {w w' : World} {e : TypeId} {v : Value} {us : List Value} {F : Nat → Prop} (h : QRow w e v us) (ho : Only F w w') (hF : ∀ k, Value.blk v = some k → ¬ F k) : QRow w' e v us := by
 rcases h with h | ⟨g, o, cap, cur, rfl, hg, r⟩
 ·exact .inl h
 ·exact .inr ⟨g, o, cap, cur, rfl, only_block hg ho (hF g rfl), r⟩
theorem QRow.lt {w : World} {e : TypeId} {v : Value} {us : List Value} (h : QRow w e v us) {k : Nat} (hk : Value.blk v = some k) : k < w.heap.size := by
 rcases h with ⟨rfl, _⟩ | ⟨g, o, cap, cur, rfl, hg, r⟩
 ·cases hk
 ·cases hk; exact lt_block hg
theorem QRow.some {w : World} {e : TypeId} {v u : Value} {us : List Value} (h : QRow w e v (u :: us)) : ∃ g o cap, v = .slice (some ⟨g, o, none⟩) (us.length + 1) cap ∧ us.length + 1 ≤ cap ∧ cap ≤ maxLen ∧ w.cell? ⟨g, o, none⟩ = some u ∧
  ∃ o', (o' = if cap = 1 then o else o + 1) ∧ QRow w e (.slice (some ⟨g, o', none⟩) us.length (cap - 1)) us := by
 rcases h with ⟨_, h⟩ | ⟨g, o, cap, cur, rfl, hg, h1, h2, h3, h4⟩
 ·cases h
 ·simp only [List.length_cons] at h1
  refine ⟨g, o, cap, rfl, h1, h2, ?_, _, rfl, .inr ⟨g, _, cap - 1, cur, rfl, hg, by omega, by omega, fun j hj => ?_, fun j x hx => ?_⟩⟩
  ·rw [cell_block hg]; exact h4 0 u rfl
  ·rw [if_neg (by omega)]
   have := h3 (j + 1) (by omega)
   omega
  ·have hj := (List.getElem?_eq_some_iff.1 hx).1
   rw [if_neg (by omega)]
   have := h4 (j + 1) x (by simpa using hx)
   rw [show o + 1 + j = o + (j + 1) by omega]; exact this
theorem run_slice_q {P : Program} {t e : TypeId} {i : TypeInfo} (ht : P.underlying t = some (.slice e)) (hi : P.info? e = some i) (hs : i.size = 1) (g o m cap : Nat) (hm : m + 1 ≤ cap) (hc : cap ≤ maxLen) (W : World) :
  (Instr.slice t (.slice (some ⟨g, o, none⟩) (m + 1) cap) (some (.int .i64 1)) none none).run P W = .ok (.slice (some ⟨g, if cap = 1 then o else o + 1, none⟩) m (cap - 1)) W := by
 have h1 : (1 : Int) ≤ ((m + 1 : Nat) : Int) := by omega
 simp [Instr.slice, Instr.sliceBounds, Instr.sliceBound, run_underlying ht, sizeOf, typeInfo, hi, hs, asIntOf, Addr.add]
 by_cases hcap : cap = 1
 all_goals (split <;> simp_all)
theorem QRow.sh {w : World} {e : TypeId} {v : Value} {us : List Value} (h : QRow w e v us) : ∃ ao cap, v = .slice ao us.length cap ∧ us.length ≤ cap ∧ cap ≤ maxLen := by
 rcases h with ⟨rfl, rfl⟩ | ⟨g, o, cap, cur, rfl, hg, h1, h2, _⟩
 ·exact ⟨none, 0, rfl, Nat.le_refl _, by unfold maxLen; omega⟩
 ·exact ⟨_, cap, rfl, h1, h2⟩
theorem run_append_q {P : Program} (w : World) {t e ty : TypeId} {bytes : Nat} (T : SlT P t e 1 bytes) {v : Value} {us : List Value} (h : QRow w e v us) (a : Addr) (c : Nat) {u : Value} (hc : w.cell? a = some u) (hu : u.oneCell' = true)
  (h63 : us.length + 1 ≤ 1099511627776) (hby : bytes ≤ 64) :
  ∃ v' w', (Builtin.append_ #[t, t] ty #[v, .slice (some a) 1 c]).run P w = .ok v' w' ∧ QRow w' e v' (us ++ [u]) ∧ Only (fun k => Value.blk v = some k) w w' ∧ ∀ k, Value.blk v' = some k → Value.blk v = some k ∨ w.heap.size ≤ k := by
 have hm : maxLen = 9223372036854775807 ∨ 1099511627776 ≤ maxLen := by unfold maxLen; omega
 have hm2 : us.length + 1 ≤ maxLen := by unfold maxLen; omega
 have hmul : (us.length + 1) * bytes ≤ 1099511627776 * 64 := Nat.mul_le_mul h63 hby
 have hnews : ∀ j x, [u][j]? = some x → w.cell? (a.add j) = some x := by
  intro j x hx
  match j, hx with
  | 0, hx => simp at hx; subst hx; rw [← hc]; unfold Addr.add; simp
 have h1 : ∀ x ∈ [u], x.oneCell' = true := by intro x hx; simp at hx; subst hx; exact hu
 rcases h with ⟨rfl, rfl⟩ | ⟨g, o, cap, cur, rfl, hg, hl, hx, hi, hv⟩
 ·obtain ⟨v', w', hr, h2, h3, h4, h5⟩ := run_append_x (P := P) (ty := ty) w T nilS 0 [] (World.ownsRow_nil _ _ _ _) a 1 c [u] rfl hnews h1 (by simpa using hm2) (by omega)
  refine ⟨v', w', hr, QRow.of_own (by simpa using h2), (Only.refl _ w).grown h3 fun k hk => (by cases hk), fun k hk => ?_⟩
  have hk' : v'.ownBlock = some k := by
   obtain ⟨g, cap, rfl, _, _⟩ := own_some h2 (by omega)
   simpa [Value.blk, Value.ownBlock] using hk
  rcases h4 k hk' with h | h
  ·cases h
  ·exact .inr h
 ·obtain ⟨i, z, t1, t2, t3, t4, t5⟩ := T.info
  have hcur : ∀ j, w.cell? ⟨g, j, none⟩ = cur[j]? := fun j => cell_block hg j
  by_cases hroom : us.length + 1 ≤ cap
  ·have hin : o + us.length < cur.size := hi _ (by omega)
   have hrun := run_append_room_cells (P := P) w t ty e i T.und t1 g o us.length cap a 1 c [u] (by rw [t3]; rfl) hnews h1 hroom
    (fun j hj => by
     simp at hj; subst hj
     rw [t3, Nat.mul_one, Nat.add_zero, hcur, Array.getElem?_eq_getElem hin]; rfl)
    (fun j hj => by simp at hj; subst hj; exact free_block hg _)
   rw [t3, Nat.mul_one] at hrun
   refine ⟨_, _, hrun, .inr ⟨g, o, cap, cur.setIfInBounds (o + us.length) u, ?_, ?_, ?_, hx, fun j hj => by simpa using hi j hj, fun j x hj => ?_⟩, ?_, fun k hk => .inl hk⟩
   ·simp
   ·exact set_block hg _ _
   ·simpa using hroom
   ·rw [Array.getElem?_setIfInBounds]
    have hjl := (List.getElem?_eq_some_iff.1 hj).1
    simp at hjl
    by_cases hjn : j = us.length
    ·subst hjn
     rw [if_pos rfl, if_pos hin]
     simpa using hj
    ·rw [if_neg (by omega)]
     exact hv j x (by rw [List.getElem?_append_left (by omega)] at hj; exact hj)
   ·exact (Only.refl (fun k => Value.blk (.slice (some ⟨g, o, none⟩) us.length cap) = some k) w).setCell (p := ⟨g, o + us.length, none⟩) (.inl rfl) u
  ·have hgrow := run_append_arg_grows (P := P) w t ty e i z 1 bytes T.und t1 t2 t3 t4 t5 (by omega) ⟨g, o, none⟩ us.length cap us (by omega)
    (fun j x hj => by rw [Go.WideShapes.add_plain, hcur]; exact hv j x hj) a 1 c [u] rfl hnews (by omega) hm2 (by omega)
   obtain ⟨v', w', hr, h2, h3⟩ := hgrow
   refine ⟨v', w', hr, QRow.of_own (by simpa using own_base0 h2), (Only.refl _ w).grown h3 fun k hk => (by cases hk), fun k hk => ?_⟩
   have hk' : v'.ownBlock = some k := by
    obtain ⟨g, cap, rfl, _, _⟩ := own_some h2 (by omega)
    simpa [Value.blk, Value.ownBlock] using hk
   exact .inr (h2.lt k hk').1
theorem wpQ1 {P : Program} {w : World} {u : Value} {ops : Array Oper} {rest : List Oper} {o : Oper} {a : Act} {Q : Exit → Act → World → Prop} {t e : TypeId} {bytes : Nat} (T : SlT P t e 1 bytes)
  (hgd : o.guard = none) (s x : Operand)
  (ho : o.op = .call { callee := .builtin .append, args := #[s, x], argTypes := #[t, t] })
  {v : Value} {us : List Value} {g : Nat} (hs : a.eval s = v) (hx : a.eval x = .slice (some ⟨g, 0, none⟩) 1 1) (hc : w.cell? ⟨g, 0, none⟩ = some u) (hu : u.oneCell' = true) (hq : QRow w e v us)
  (h63 : us.length + 1 ≤ 1099511627776) (hbytes : bytes ≤ 64)
  (h : ∀ v' w', QRow w' e v' (us ++ [u]) → Only (fun k => Value.blk v = some k) w w' → (∀ k, Value.blk v' = some k → Value.blk v = some k ∨ w.heap.size ≤ k) → wpList P ops Q rest (a.put o.dst v') w') :
  wpList P ops Q (o :: rest) a w := by
 refine wpList_plain hgd fun K hK => ?_
 obtain ⟨v', w', hr, h2, h3, h4⟩ := run_append_q (P := P) (ty := o.type) w T hq ⟨g, 0, none⟩ 1 hc hu h63 hbytes
 unfold Oper.wp execOp
 simp only [ho, resolve, invoke, builtin, Sem.run_bind, Sem.run_pure, Result.andThen_ok, List.map_toArray, List.map_cons, List.map_nil, hs, hx, hr]
 exact hK _ _ (h v' w' h2 h3 h4)
end Go.Proofs.YtmlfchjompfmaaaGreatDoor

/- RowZ RowO, in one text. -/
import Derived.Test.YtbapkcnfacklaaaGreatBase
import Derived.Test.YtbapkcnfacklaaaGreatRegs
set_option linter.unusedVariables false
namespace Go.Proofs.YtbapkcnfacklaaaGreat
open Go.RowKit
structure RowZ (w : World) (g : Tag) (t : Nat × Nat) (e : TypeId) (size : Nat) (v : Value) (n : Nat) (xs : List Value) : Prop where
 own : w.ownsRow 0 e size v n xs
 tg : ∀ k, v.ownBlock = some k → g k = t
section
variable {w w' : World} {g g' : Tag} {t : Nat × Nat} {e : TypeId} {size n : Nat} {v : Value} {xs : List Value}
theorem RowZ.keep (h : RowZ w g t e size v n xs) {F : Nat → Prop} (ho : Only F w w') (hF : ∀ k, g k = t → ¬ F k) (hg : Agree w g g') : RowZ w' g' t e size v n xs :=
 ⟨own_only h.own ho fun k hk => hF k (h.tg k hk), fun k hk => (hg k (own_lt h.own hk)).trans (h.tg k hk)⟩
theorem RowZ.only (h : RowZ w g t e size v n xs) {F : Nat → Prop} (ho : Only F w w') (hF : ∀ k, g k = t → ¬ F k) : RowZ w' g t e size v n xs := h.keep ho hF (Agree.refl _ _)
theorem RowZ.alloc (h : RowZ w g t e size v n xs) (o : Obj) : RowZ (w.alloc o) g t e size v n xs := h.only ((Only.refl (fun _ => False) _).alloc o) (fun _ _ f => f)
theorem RowZ.drew (h : RowZ w g t e size v n xs) : RowZ w.drew g t e size v n xs := h.only ((Only.refl (fun _ => False) _).drew) (fun _ _ f => f)
theorem RowZ.drewN (h : RowZ w g t e size v n xs) (m : Nat) : RowZ (w.drewN m) g t e size v n xs := h.only ((Only.refl (fun _ => False) _).drewN m) (fun _ _ f => f)
theorem RowZ.far (h : RowZ w g t e size v n xs) {p : Addr} (hp : g p.block ≠ t) (u : Value) : RowZ (w.setCell p u) g t e size v n xs :=
 h.only (F := fun k => k = p.block) (Only.setCell (Only.refl (fun k => k = p.block) w) (p := p) (.inl rfl) u) (fun k hk hF => hp (by rw [← hF]; exact hk))
theorem RowZ.step {P : Program} {us : List Value} {ops : Array Oper} {o : Oper} {a : Act} {K : Act → World → Prop} {Q : Exit → Act → World → Prop} {E : Prop} {tt : TypeId} {bytes : Nat} (T : SlT P tt e size bytes)
  (hgd : o.guard = none) (s x : Operand)
  (ho : o.op = .call { callee := .builtin .append, args := #[s, x], argTypes := #[tt, tt] })
  {gb : Nat} (hs : a.eval s = v) (hx : a.eval x = .slice (some ⟨gb, 0, none⟩) 1 1) (hul : us.length = size) (hc : ∀ j, j < us.length → w.cell? ⟨gb, j, none⟩ = us[j]?) (hu : ∀ u ∈ us, u.oneCell' = true) (h : RowZ w g t e size v n xs)
  (h63 : n + 1 ≤ 1099511627776) (hbytes : bytes ≤ 64)
  (hK : ∀ bb cap w', RowZ w' (Tag.put g w.heap.size w'.heap.size t) t e size (.slice (some ⟨bb, 0, none⟩) (n + 1) cap) (n + 1) (xs ++ us) → Only (fun k => g k = t) w w' → K (a.put o.dst (.slice (some ⟨bb, 0, none⟩) (n + 1) cap)) w') :
  if Region.wanted o (yielded ops a.tmps) = true then Oper.wp P o a w K Q else E := by
 rw [if_pos (by simp [Region.wanted, hgd])]
 obtain ⟨v', w', hr, r1, r2, r3, r4⟩ := run_append_x (P := P) (ty := o.type) w T v n xs h.own ⟨gb, 0, none⟩ 1 1 us (by omega) (by
  intro j x hj
  have hj' := (List.getElem?_eq_some_iff.1 hj).1
  have := hc j hj'
  rw [Go.WideShapes.add_plain, Nat.zero_add, this]; exact hj) hu (by unfold maxLen; omega) (by
  have : (n + 1) * bytes ≤ 1099511627776 * 64 := Nat.mul_le_mul h63 hbytes
  omega)
 unfold Oper.wp execOp
 simp only [ho, resolve, invoke, builtin, Sem.run_bind, Sem.run_pure, Result.andThen_ok, List.map_toArray, List.map_cons, List.map_nil, hs, hx, hr]
 obtain ⟨bb, cap, rfl, hc1, hc2⟩ := own_some r1 (by omega)
 refine hK bb cap w' ⟨r1, fun k hk => ?_⟩ (((Only.refl _ w).grown r2 fun k hk => .inl hk).mono fun k hk => h.tg k hk)
 simp [Value.ownBlock] at hk
 subst hk
 rcases r3 bb rfl with hh | hh
 ·rw [Tag.put_old _ _ (own_lt h.own hh)]; exact h.tg _ hh
 ·exact Tag.put_new _ _ hh (own_lt r1 rfl)
end
end Go.Proofs.YtbapkcnfacklaaaGreat

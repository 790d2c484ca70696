/- Rows of structs flattened; append as one step of a region that draws its order. -/
import Derived.Test.YtmlfchjompfmaaaDoorRec1
import Derived.Test.YtmlfchjompfmaaaDoorRegs
import Derived.Deep.Slices
set_option linter.unusedVariables false
namespace Go.Proofs.YtmlfchjompfmaaaDoor
open Go.RowKit
section
variable {w w' : World} {B : Nat}
theorem RowT.of_own {α : Type} {n : Nat} {C : Nat → World → List Value → α → Prop} {e : TypeId} {v : Value} {xs : List α} {cs : List Value} (h : w.ownsRow 0 e n v xs.length cs)
  (hx : ∀ i (hi : i < xs.length), ∃ c, c.length = n ∧ (∀ j u, c[j]? = some u → cs[i * n + j]? = some u) ∧ C w.heap.size w c xs[i]) : RowT n C w.heap.size w v xs := by
 obtain ⟨ao, cap, rfl, h1, h2⟩ := own_slice h
 unfold maxLen at h2
 refine ⟨⟨ao, cap, rfl, h1, by omega⟩, fun ao' len' cap' hv hp => ?_, fun len' cap' hv => by rw [hv] at h; exact own_nil h⟩
 simp only [Value.slice.injEq] at hv
 obtain ⟨rfl, rfl, rfl⟩ := hv
 obtain ⟨g, cap', he, _, _⟩ := own_some h hp
 simp only [Value.slice.injEq] at he
 obtain ⟨rfl, -, rfl⟩ := he
 refine ⟨g, 0, rfl, own_lt h rfl, Nat.le_refl _, fun i hi => ?_⟩
 obtain ⟨c, g1, g2, g3⟩ := hx i hi
 refine ⟨c, g1, fun j u hu => ?_, g3⟩
 have := g2 j u hu
 rw [Nat.zero_add]
 have h2 := h.cells (g := g) rfl _ _ this
 rw [Go.WideShapes.add_plain, Nat.zero_add] at h2
 exact h2
theorem stepAN {P : Program} {ops : Array Oper} {o : Oper} {a : Act} {K : Act → World → Prop} {Q : Exit → Act → World → Prop} {E : Prop} {tt e : TypeId} {size bytes : Nat} (T : SlT P tt e size bytes)
  (hgd : o.guard = none) (s x : Operand)
  (ho : o.op = .call { callee := .builtin .append, args := #[s, x], argTypes := #[tt, tt] })
  {v : Value} {n : Nat} {xs : List Value} {ao : Option Addr} {m c : Nat} {news : List Value} (hs : a.eval s = v) (hown : w.ownsRow 0 e size v n xs) (hx : a.eval x = .slice ao m c) (hl : news.length = m * size) (hnone : ao = none → m = 0 ∧ c = 0)
  (hnews : ∀ ad, ao = some ad → ∀ j u, news[j]? = some u → w.cell? (ad.add j) = some u) (h1 : ∀ u ∈ news, u.oneCell' = true)
  (h63 : n + m ≤ 1099511627776) (hbytes : bytes ≤ 128)
  (hK : ∀ ao' cap w', w'.ownsRow 0 e size (.slice ao' (n + m) cap) (n + m) (xs ++ news) → Only (fun k => v.ownBlock = some k) w w' → NewRow w v (.slice ao' (n + m) cap) → K (a.put o.dst (.slice ao' (n + m) cap)) w') :
  if Region.wanted o (yielded ops a.tmps) = true then Oper.wp P o a w K Q else E := by
 rw [if_pos (by simp [Region.wanted, hgd])]
 cases ao with
 | none =>
  obtain ⟨rfl, rfl⟩ := hnone rfl
  have hn : news = [] := List.eq_nil_of_length_eq_zero (by simpa using hl)
  subst hn
  obtain ⟨i, z, h2, h3, h4, h5, h6⟩ := T.info
  have hr := run_append_owned_none (P := P) w 0 tt o.type e i size T.und h2 v n xs hown
  obtain ⟨ao', cap', rfl, _, _⟩ := own_slice hown
  unfold Oper.wp execOp
  simp only [ho, resolve, invoke, builtin, Sem.run_bind, Sem.run_pure, Result.andThen_ok, List.map_toArray, List.map_cons, List.map_nil, hs, hx, hr]
  exact hK ao' cap' w (by simpa using hown) (Only.refl _ _) (fun k hk => .inl hk)
 | some ad =>
  have hmul : (n + m) * bytes ≤ 1099511627776 * 128 := Nat.mul_le_mul h63 hbytes
  obtain ⟨v', w', hr, r1, r2, r3, -⟩ := run_append_x (P := P) (ty := o.type) w T v n xs hown ad m c news hl (hnews ad rfl) h1 (by unfold maxLen; omega) (by omega)
  unfold Oper.wp execOp
  simp only [ho, resolve, invoke, builtin, Sem.run_bind, Sem.run_pure, Result.andThen_ok, List.map_toArray, List.map_cons, List.map_nil, hs, hx, hr]
  obtain ⟨ao', cap', rfl, _, _⟩ := own_slice r1
  exact hK ao' cap' w' r1 ((Only.refl _ w).grown r2 fun k hk => .inl hk) r3
end
end Go.Proofs.YtmlfchjompfmaaaDoor

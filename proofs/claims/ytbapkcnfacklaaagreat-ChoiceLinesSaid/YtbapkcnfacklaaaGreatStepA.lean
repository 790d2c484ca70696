/- Rows of structs flattened; append as one step of a region that draws its order. -/
import Derived.Test.YtbapkcnfacklaaaGreatRec1
import Derived.Test.YtbapkcnfacklaaaGreatRegs
import Derived.Deep.Slices
set_option linter.unusedVariables false
namespace Go.Proofs.YtbapkcnfacklaaaGreat
open Go.RowKit
section
variable {w w' : World} {B : Nat}
theorem flat_len {n : Nat} {F : Nat → List Value} : ∀ {k : Nat}, (∀ i, i < k → (F i).length = n) → ((List.range k).flatMap F).length = k * n
 | 0, _ => by simp
 | k + 1, h => by
  rw [List.range_succ, List.flatMap_append, List.length_append, flat_len fun i hi => h i (by omega)]
  simp [h k (by omega), Nat.add_mul]
theorem flat_get {n : Nat} {F : Nat → List Value} : ∀ {k : Nat}, (∀ i, i < k → (F i).length = n) → ∀ {i j : Nat}, i < k → j < n → ((List.range k).flatMap F)[i * n + j]? = (F i)[j]?
 | 0, _, _, _, h, _ => by omega
 | k + 1, h, i, j, hi, hj => by
  have hl := flat_len (n := n) (F := F) (k := k) fun i hi => h i (by omega)
  rw [List.range_succ, List.flatMap_append]
  by_cases hk : i < k
  ·have : i * n + j < k * n := by
    have : (i + 1) * n ≤ k * n := Nat.mul_le_mul_right _ hk
    rw [Nat.add_mul] at this; omega
   rw [List.getElem?_append_left (by rw [hl]; exact this)]
   exact flat_get (fun i hi => h i (by omega)) hk hj
  ·obtain rfl : i = k := by omega
   rw [List.getElem?_append_right (by rw [hl]; omega), hl]
   simp
theorem RowT.flat {α : Type} {n : Nat} (hn : 0 < n) {C : Nat → World → List Value → α → Prop} {ao : Option Addr} {len cap : Nat} {xs : List α} (h : RowT n C B w (.slice ao len cap) xs) :
  ∃ F : Nat → List Value, (∀ i (hi : i < xs.length), (F i).length = n ∧ C B w (F i) xs[i]) ∧ ((List.range xs.length).flatMap F).length = xs.length * n ∧ (∀ ad, ao = some ad → ∀ j u, ((List.range xs.length).flatMap F)[j]? = some u → w.cell? (ad.add j) = some u) := by
 by_cases h0 : 0 < xs.length
 ·obtain ⟨b, off, rfl, _, _, hc⟩ := h.cells _ _ _ rfl h0
  obtain ⟨F, hF⟩ := Go.Deep.choose_lt (α := List Value) (n := xs.length) (p := fun i cs => ∃ hi : i < xs.length, cs.length = n ∧ w.rangeAt b (off + i * n) cs ∧ C B w cs xs[i]) (fun i hi => by
   obtain ⟨cs, h1, h2, h3⟩ := hc i hi
   exact ⟨cs, hi, h1, h2, h3⟩)
  have hl := flat_len (n := n) (F := F) (k := xs.length) fun i hi => (hF i hi).2.1
  refine ⟨F, fun i hi => ⟨(hF i hi).2.1, (hF i hi).2.2.2⟩, hl, fun ad had j u hu => ?_⟩
  obtain rfl := Option.some.inj had
  have hj := (List.getElem?_eq_some_iff.1 hu).1
  rw [hl] at hj
  have hi : j / n < xs.length := Nat.div_lt_of_lt_mul (by rw [Nat.mul_comm]; exact hj)
  have hjn : j % n < n := Nat.mod_lt _ hn
  have hdm : j / n * n + j % n = j := by rw [Nat.mul_comm]; exact Nat.div_add_mod j n
  rw [← hdm, flat_get (fun i hi => (hF i hi).2.1) hi hjn] at hu
  have := (hF (j / n) hi).2.2.1 (j % n) u hu
  rw [Go.WideShapes.add_plain, ← hdm, ← Nat.add_assoc]
  exact this
 ·obtain rfl : xs = [] := List.eq_nil_of_length_eq_zero (by omega)
  exact ⟨fun _ => [], fun i hi => by simp at hi, by simp, fun ad _ j u hu => by simp at hu⟩
theorem RowT.of_own {α : Type} {n : Nat} {C : Nat → World → List Value → α → Prop} {e : TypeId} {v : Value} {xs : List α} {cs : List Value} (h : w.ownsRow 0 e n v xs.length cs)
  (hx : ∀ i (hi : i < xs.length), ∃ c, c.length = n ∧ (∀ j u, c[j]? = some u → cs[i * n + j]? = some u) ∧ C w.heap.size w c xs[i]) : RowT n C w.heap.size w v xs := by
 obtain ⟨ao, cap, rfl, h1, h2⟩ := own_slice h
 unfold maxLen at h2
 refine ⟨⟨ao, cap, rfl, h1, by omega⟩, fun ao' len' cap' hv hp => ?_, fun len' cap' hv => by rw [hv] at h; exact own_nil h⟩
 simp only [Value.slice.injEq] at hv
 obtain ⟨rfl, rfl, rfl⟩ := hv
 obtain ⟨g, cap', he, _, _⟩ := own_some h hp
 simp only [Value.slice.injEq] at he
 obtain ⟨rfl, -, rfl⟩ := he
 refine ⟨g, 0, rfl, own_lt h rfl, Nat.le_refl _, fun i hi => ?_⟩
 obtain ⟨c, g1, g2, g3⟩ := hx i hi
 refine ⟨c, g1, fun j u hu => ?_, g3⟩
 have := g2 j u hu
 rw [Nat.zero_add]
 have h2 := h.cells (g := g) rfl _ _ this
 rw [Go.WideShapes.add_plain, Nat.zero_add] at h2
 exact h2
theorem stepAN {P : Program} {ops : Array Oper} {o : Oper} {a : Act} {K : Act → World → Prop} {Q : Exit → Act → World → Prop} {E : Prop} {tt e : TypeId} {size bytes : Nat} (T : SlT P tt e size bytes)
  (hgd : o.guard = none) (s x : Operand)
  (ho : o.op = .call { callee := .builtin .append, args := #[s, x], argTypes := #[tt, tt] })
  {v : Value} {n : Nat} {xs : List Value} {ao : Option Addr} {m c : Nat} {news : List Value} (hs : a.eval s = v) (hown : w.ownsRow 0 e size v n xs) (hx : a.eval x = .slice ao m c) (hl : news.length = m * size) (hnone : ao = none → m = 0 ∧ c = 0)
  (hnews : ∀ ad, ao = some ad → ∀ j u, news[j]? = some u → w.cell? (ad.add j) = some u) (h1 : ∀ u ∈ news, u.oneCell' = true)
  (h63 : n + m ≤ 1099511627776) (hbytes : bytes ≤ 128)
  (hK : ∀ ao' cap w', w'.ownsRow 0 e size (.slice ao' (n + m) cap) (n + m) (xs ++ news) → Only (fun k => v.ownBlock = some k) w w' → NewRow w v (.slice ao' (n + m) cap) → K (a.put o.dst (.slice ao' (n + m) cap)) w') :
  if Region.wanted o (yielded ops a.tmps) = true then Oper.wp P o a w K Q else E := by
 rw [if_pos (by simp [Region.wanted, hgd])]
 cases ao with
 | none =>
  obtain ⟨rfl, rfl⟩ := hnone rfl
  have hn : news = [] := List.eq_nil_of_length_eq_zero (by simpa using hl)
  subst hn
  obtain ⟨i, z, h2, h3, h4, h5, h6⟩ := T.info
  have hr := run_append_owned_none (P := P) w 0 tt o.type e i size T.und h2 v n xs hown
  obtain ⟨ao', cap', rfl, _, _⟩ := own_slice hown
  unfold Oper.wp execOp
  simp only [ho, resolve, invoke, builtin, Sem.run_bind, Sem.run_pure, Result.andThen_ok, List.map_toArray, List.map_cons, List.map_nil, hs, hx, hr]
  exact hK ao' cap' w (by simpa using hown) (Only.refl _ _) (fun k hk => .inl hk)
 | some ad =>
  have hmul : (n + m) * bytes ≤ 1099511627776 * 128 := Nat.mul_le_mul h63 hbytes
  obtain ⟨v', w', hr, r1, r2, r3, -⟩ := run_append_x (P := P) (ty := o.type) w T v n xs hown ad m c news hl (hnews ad rfl) h1 (by unfold maxLen; omega) (by omega)
  unfold Oper.wp execOp
  simp only [ho, resolve, invoke, builtin, Sem.run_bind, Sem.run_pure, Result.andThen_ok, List.map_toArray, List.map_cons, List.map_nil, hs, hx, hr]
  obtain ⟨ao', cap', rfl, _, _⟩ := own_slice r1
  exact hK ao' cap' w' r1 ((Only.refl _ w).grown r2 fun k hk => .inl hk) r3
end
end Go.Proofs.YtbapkcnfacklaaaGreat

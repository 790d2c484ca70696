/- append of a whole slice, whatever its shape; more on rows. -/
import Derived.Test.YtjbfgafkjejdjaaInts
namespace Go.Proofs.Ytjbfgafkjejdjaa
open Go.RowKit

/-- where what append hands back may lie -/
def NewRow (w : World) (v v' : Value) : Prop := ∀ k, v'.ownBlock = some k → v.ownBlock = some k ∨ w.heap.size ≤ k

/-- 'append(xs, ys...)', ys of whatever shape. -/
theorem wpAS {P : Program} {w : World} {ops : Array Oper} {rest : List Oper} {o : Oper} {a : Act} {Q : Exit → Act → World → Prop} {t e : TypeId} {bytes : Nat} (T : SlT P t e 1 bytes)
    (hgd : o.guard = none) (s x : Operand)
    (ho : o.op = .call { callee := .builtin .append, args := #[s, x], argTypes := #[t, t] })
    {v : Value} {n : Nat} {xs : List Value} (hs : a.eval s = v) (hown : w.ownsRow 0 e 1 v n xs)
    {ao : Option Addr} {m c : Nat} {news : List Value} (hx : a.eval x = .slice ao m c) (hl : news.length = m) (hnone : ao = none → m = 0 ∧ c = 0) (hnews : ∀ ad, ao = some ad → ∀ j u, news[j]? = some u → w.cell? (ad.add j) = some u) (h1 : ∀ u ∈ news, u.oneCell' = true)
    (h63 : n + m ≤ 1099511627776) (hbytes : bytes ≤ 64)
    (h : ∀ v' w', w'.ownsRow 0 e 1 v' (n + m) (xs ++ news) → Only (fun k => v.ownBlock = some k) w w' → NewRow w v v' → wpList P ops Q rest (a.put o.dst v') w') : wpList P ops Q (o :: rest) a w := by
  cases ao with
  | none =>
    obtain ⟨rfl, rfl⟩ := hnone rfl
    have hn : news = [] := List.eq_nil_of_length_eq_zero hl
    subst hn
    obtain ⟨i, z, h2, h3, h4, h5, h6⟩ := T.info
    refine wpList_plain hgd fun K hK => ?_
    have hr := run_append_owned_none (P := P) w 0 t o.type e i 1 T.und h2 v n xs hown
    unfold Oper.wp execOp
    simp only [ho, resolve, invoke, builtin, Sem.run_bind, Sem.run_pure, Result.andThen_ok, List.map_toArray, List.map_cons, List.map_nil, hs, hx, hr]
    exact hK _ _ (h v w (by simpa using hown) (Only.refl _ _) (fun k hk => .inl hk))
  | some ad =>
    refine wpA T hgd s x ho (news := news) hs hown hx (by omega) (hnews ad rfl) h1 (by unfold maxLen; omega) ?_ ?_
    · have : (n + m) * bytes ≤ 1099511627776 * 64 := Nat.mul_le_mul h63 hbytes
      omega
    · intro v' w' r1 r2 r3 r4
      exact h v' w' r1 ((Only.refl _ w).grown r2 fun k hk => .inl hk) r3

/-- the cells of a slice that reads as numbers, for wpAS -/
theorem Ints.news {w : World} {ao : Option Addr} {len cap : Nat} {xs : List Int} (h : Ints w (.slice ao len cap) xs) : ∀ ad, ao = some ad → ∀ j u, (xs.map (Value.int .i64))[j]? = some u → w.cell? (ad.add j) = some u := by
  intro ad had j u hu
  have hj : j < xs.length := by
    have := (List.getElem?_eq_some_iff.1 hu).1
    simpa using this
  obtain ⟨b, off, he, _, hc⟩ := h.cells _ _ _ rfl (by omega)
  rw [had] at he
  obtain rfl := Option.some.inj he
  rw [Go.WideShapes.add_plain, hc j hj]
  rw [← hu]
  simp [List.getD, hj]

theorem ints_one (xs : List Int) : ∀ u ∈ xs.map (Value.int .i64), u.oneCell' = true := ints_oneCell .i64 xs

end Go.Proofs.Ytjbfgafkjejdjaa

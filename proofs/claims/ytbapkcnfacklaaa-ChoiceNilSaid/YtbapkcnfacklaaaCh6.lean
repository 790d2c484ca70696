/- choice.rules: the walk. -/
import Derived.Test.YtbapkcnfacklaaaNd2
import Derived.Test.YtbapkcnfacklaaaStepA
import Derived.BigFrame
set_option linter.unusedVariables false
namespace Go.Proofs.Ytbapkcnfacklaaa
open Go.RowKit
structure RuleD where
 kind : Int
 pack : Int
 idx : Int
 line : Int
deriving DecidableEq
instance : Inhabited RuleD := ⟨⟨0, 0, 0, 0⟩⟩
def RuleD.cells (r : RuleD) : List Value := [.int .u8 r.kind, .int .i64 r.pack, .int .i64 r.idx, .int .i64 r.line]
def RuleC (_ : Nat) (_ : World) (cs : List Value) (r : RuleD) : Prop := cs = r.cells ∧ (0 ≤ r.kind ∧ r.kind ≤ 255) ∧ InI64 r.pack ∧ InI64 r.idx ∧ InI64 r.line
theorem RuleC.keep : Keeps RuleC := fun _ _ _ _ _ h _ => h
theorem RuleD.one (r : RuleD) : ∀ u ∈ r.cells, u.oneCell' = true := by
 intro u hu
 simp [RuleD.cells] at hu
 rcases hu with rfl | rfl | rfl | rfl <;> rfl
def flatR (l : List RuleD) : List Value := l.flatMap RuleD.cells
theorem flatR_app (a b : List RuleD) : flatR (a ++ b) = flatR a ++ flatR b := List.flatMap_append
theorem flatR_get (l : List RuleD) {i j : Nat} (hi : i < l.length) (hj : j < 4) : (flatR l)[i * 4 + j]? = (l[i]'hi).cells[j]? := by
 unfold flatR
 induction l generalizing i with
 | nil => simp at hi
 | cons x r ih =>
  have hx : x.cells.length = 4 := rfl
  rw [List.flatMap_cons]
  cases i with
  | zero => rw [Nat.zero_mul, Nat.zero_add, List.getElem?_append_left (by rw [hx]; exact hj)]; rfl
  | succ i =>
   rw [List.getElem?_append_right (by rw [hx]; omega), hx, show (i + 1) * 4 + j - 4 = i * 4 + j by omega, ih (by simpa using hi)]
   simp
def rootRs (q : ReqD) (k : Nat) : List RuleD := (List.range k).map fun i : Nat => ⟨1, -1, i, (q.roots.getD i default).line⟩
def depRs (x : RecD) (p k : Nat) : List RuleD := (List.range k).map fun i : Nat => ⟨2, p, i, ((x.pack p).deps.getD i default).line⟩
def conRs (x : RecD) (p k : Nat) : List RuleD := (List.range k).map fun i : Nat => ⟨3, p, i, ((x.pack p).cons.getD i default).line⟩
def packRs (x : RecD) (p : Nat) : List RuleD := depRs x p (x.pack p).deps.length ++ conRs x p (x.pack p).cons.length
def rulesOf (x : RecD) (q : ReqD) (l : List Nat) : List RuleD := rootRs q q.roots.length ++ l.flatMap (packRs x)
theorem rootRs_succ (q : ReqD) (k : Nat) : rootRs q (k + 1) = rootRs q k ++ [⟨1, -1, k, (q.roots.getD k default).line⟩] := by unfold rootRs; rw [List.range_succ, List.map_append]; rfl
theorem depRs_succ (x : RecD) (p k : Nat) : depRs x p (k + 1) = depRs x p k ++ [⟨2, p, k, ((x.pack p).deps.getD k default).line⟩] := by unfold depRs; rw [List.range_succ, List.map_append]; rfl
theorem conRs_succ (x : RecD) (p k : Nat) : conRs x p (k + 1) = conRs x p k ++ [⟨3, p, k, ((x.pack p).cons.getD k default).line⟩] := by unfold conRs; rw [List.range_succ, List.map_append]; rfl
section
variable {w w' : World} {B : Nat}
theorem slRule : SlT Try.prog 44 94 4 32 := SlT.mk' (z := .agg #[.int .u8 0, .int .i64 0, .int .i64 0, .int .i64 0]) Try.underlying44 (by kernel_rfl) rfl (by decide)
theorem wpAR {P : Program} {ops : Array Oper} {rest : List Oper} {o : Oper} {a : Act} {Q : Exit → Act → World → Prop} {t e : TypeId} {size bytes : Nat} (T : SlT P t e size bytes)
  (hgd : o.guard = none) (s x : Operand)
  (ho : o.op = .call { callee := .builtin .append, args := #[s, x], argTypes := #[t, t] })
  {v : Value} {n : Nat} {xs cs : List Value} {g : Nat} (hs : a.eval s = v) (hx : a.eval x = .slice (some ⟨g, 0, none⟩) 1 1) (hl : cs.length = size) (hc : w.rangeAt g 0 cs) (hu : ∀ u ∈ cs, u.oneCell' = true) (hown : w.ownsRow 0 e size v n xs)
  (h63 : n + 1 ≤ 1099511627776) (hbytes : bytes ≤ 128)
  (h : ∀ v' w', w'.ownsRow 0 e size v' (n + 1) (xs ++ cs) → Only (fun k => v.ownBlock = some k) w w' → AppTo w v v' (n + 1) → wpList P ops Q rest (a.put o.dst v') w') :
  wpList P ops Q (o :: rest) a w := by
 refine wpA T hgd s x ho (news := cs) hs hown hx (by rw [hl, Nat.one_mul]) ?_ hu ?_ ?_ ?_
 ·intro j x hj
  have := hc j x hj
  rw [Go.WideShapes.add_plain]
  exact this
 ·unfold maxLen; omega
 ·have : (n + 1) * bytes ≤ 1099511627776 * 128 := Nat.mul_le_mul h63 hbytes
  omega
 ·intro v' w' r1 r2 r3 r4
  refine h v' w' r1 ((Only.refl _ w).grown r2 fun k hk => .inl hk) ?_
  obtain ⟨g, cap, rfl, hc1, hc2⟩ := own_some r1 (by omega)
  exact ⟨g, cap, rfl, hc1, hc2, r3 g rfl⟩
theorem rangeAt_new {w : World} {cs : List Value} {t : TypeId} {n : Nat} (h : n = w.heap.size) : (w.alloc (.cells cs.toArray t)).rangeAt n 0 cs := by
 subst h
 intro j u hu
 have hb : (w.alloc (.cells cs.toArray t)).heap[w.heap.size]? = some (.cells cs.toArray t) := heap_alloc_new w _
 rw [Nat.zero_add, cell_block hb]
 simpa using hu
def RuRow (w0 w : World) (v : Value) (l : List RuleD) : Prop := w.ownsRow 0 94 4 v l.length (flatR l) ∧ ∀ k, v.ownBlock = some k → w0.heap.size ≤ k
theorem RuRow.nil (w0 w : World) : RuRow w0 w nilS [] := ⟨World.ownsRow_nil _ _ _ _, fun k hk => by cases hk⟩
theorem RuRow.app {w0 w1 w2 : World} {v v' : Value} {l : List RuleD} {r : RuleD} (h : RuRow w0 w v l) (hs : w0.heap.size ≤ w1.heap.size) (s1 : w2.ownsRow 0 94 4 v' (l.length + 1) (flatR l ++ r.cells)) (s3 : AppTo w1 v v' (l.length + 1)) : RuRow w0 w2 v' (l ++ [r]) := by
 refine ⟨?_, fun k hk => ?_⟩
 ·rw [flatR_app, List.length_append]
  have : flatR [r] = r.cells := by simp [flatR]
  rw [this]; exact s1
 ·obtain ⟨g, cap, rfl, -, -, hg⟩ := s3
  simp [Value.ownBlock] at hk
  subst hk
  rcases hg with hg | hg
  ·exact h.2 _ hg
  ·omega
theorem RuRow.read {w0 : World} {v : Value} {l : List RuleD} (h : RuRow w0 w v l) (hr : ∀ r ∈ l, (0 ≤ r.kind ∧ r.kind ≤ 255) ∧ InI64 r.pack ∧ InI64 r.idx ∧ InI64 r.line) : RowT 4 RuleC w.heap.size w v l :=
 RowT.of_own h.1 fun i hi => ⟨(l[i]'hi).cells, rfl, fun j u hu => by
  have hj := (List.getElem?_eq_some_iff.1 hu).1
  rw [flatR_get l hi hj]; exact hu, rfl, hr _ (List.getElem_mem hi)⟩
end
end Go.Proofs.Ytbapkcnfacklaaa

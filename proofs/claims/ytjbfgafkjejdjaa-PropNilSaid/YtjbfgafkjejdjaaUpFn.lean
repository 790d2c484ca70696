/- Which literals are so, what follows of a clause, passes over clauses: plain functions. -/
import Derived.Test.YtjbfgafkjejdjaaCells
namespace Go.Proofs.Ytjbfgafkjejdjaa

namespace Cnf
/-- whether a literal is so, by a list of those that are -/
def value (l : List Int) (x : Int) : Int :=
  match l with
  | [] => 0
  | y :: r => if y = x then 1 else if y = -x then -1 else value r x

theorem value_range (l : List Int) (x : Int) : value l x = 0 ∨ value l x = 1 ∨ value l x = -1 := by
  induction l with
  | nil => exact .inl rfl
  | cons y r ih =>
    unfold value
    split
    · exact .inr (.inl rfl)
    · split
      · exact .inr (.inr rfl)
      · exact ih

theorem value_drop {l : List Int} {k : Nat} (h : k < l.length) (x : Int) : value (l.drop k) x = if l.getD k 0 = x then 1 else if l.getD k 0 = -x then -1 else value (l.drop (k + 1)) x := by
  rw [List.drop_eq_getElem_cons h, value]
  have e : l.getD k 0 = l[k] := by simp [List.getD_eq_getElem?_getD, h]
  rw [e]
/-- what follows of a clause at once -/
def folEnd (op : Int) (n : Nat) : Int × Int := if n = 0 then (0, -1) else if n = 1 then (op, 1) else (0, 0)
def fol (l : List Int) : List Int → Int → Nat → Int × Int
  | [], op, n => folEnd op n
  | x :: r, op, n => if value l x = 1 then (0, 0) else if value l x = 0 then fol l r x (n + 1) else fol l r op n

theorem fol_drop (l : List Int) {c : List Int} {k : Nat} (h : k < c.length) (op : Int) (n : Nat) : fol l (c.drop k) op n = if value l (c.getD k 0) = 1 then (0, 0) else if value l (c.getD k 0) = 0 then fol l (c.drop (k + 1)) (c.getD k 0) (n + 1) else fol l (c.drop (k + 1)) op n := by
  rw [List.drop_eq_getElem_cons h, fol]
  have e : c.getD k 0 = c[k] := by simp [List.getD_eq_getElem?_getD, h]
  rw [e]

end Cnf

namespace Cnf

theorem fol_cases (l : List Int) : ∀ (c : List Int) (op : Int) (n : Nat), (fol l c op n).2 = 0 ∨ fol l c op n = (0, -1) ∨ ((fol l c op n).2 = 1 ∧ ((fol l c op n).1 ∈ c ∨ (fol l c op n).1 = op ∧ n = 1))
  | [], op, n => by
    unfold fol folEnd
    by_cases h0 : n = 0
    · rw [if_pos h0]; exact .inr (.inl rfl)
    · rw [if_neg h0]
      by_cases h1 : n = 1
      · rw [if_pos h1]; exact .inr (.inr ⟨rfl, .inr ⟨rfl, h1⟩⟩)
      · rw [if_neg h1]; exact .inl rfl
  | x :: r, op, n => by
    unfold fol
    by_cases h1 : value l x = 1
    · rw [if_pos h1]; exact .inl rfl
    · rw [if_neg h1]
      by_cases h0 : value l x = 0
      · rw [if_pos h0]
        rcases fol_cases l r x (n + 1) with h | h | ⟨h, h'⟩
        · exact .inl h
        · exact .inr (.inl h)
        · refine .inr (.inr ⟨h, .inl ?_⟩)
          rcases h' with h' | ⟨h', -⟩
          · exact List.mem_cons_of_mem _ h'
          · rw [h']; exact List.mem_cons_self
      · rw [if_neg h0]
        rcases fol_cases l r op n with h | h | ⟨h, h'⟩
        · exact .inl h
        · exact .inr (.inl h)
        · refine .inr (.inr ⟨h, ?_⟩)
          rcases h' with h' | h'
          · exact .inl (List.mem_cons_of_mem _ h')
          · exact .inr h'

/-- the three answers -/
theorem fol_three (l c : List Int) : (∃ z, fol l c 0 0 = (z, 0)) ∨ fol l c 0 0 = (0, -1) ∨ ∃ x ∈ c, fol l c 0 0 = (x, 1) := by
  rcases fol_cases l c 0 0 with h | h | ⟨h, h'⟩
  · exact .inl ⟨_, Prod.ext rfl h⟩
  · exact .inr (.inl h)
  · rcases h' with h' | ⟨-, h'⟩
    · exact .inr (.inr ⟨_, h', Prod.ext rfl h⟩)
    · exact absurd h' (by omega)

/-- one pass over clauses -/
def pass : List (List Int) → List Int → List Int × Bool
  | [], o => (o, false)
  | c :: r, o => if (fol o c 0 0).2 = -1 then (o, true) else if (fol o c 0 0).2 = 1 then pass r (o ++ [(fol o c 0 0).1]) else pass r o

def andThen (p : List Int × Bool) (f : List Int → List Int × Bool) : List Int × Bool := if p.2 then (p.1, true) else f p.1

def allR (cs : List (List Int)) : Nat → List Int → List Int × Bool
  | 0, o => (o, false)
  | n + 1, o => andThen (pass cs o) (allR cs n)

theorem pass_drop {cs : List (List Int)} {k : Nat} (h : k < cs.length) (o : List Int) : pass (cs.drop k) o = if (fol o (cs.getD k []) 0 0).2 = -1 then (o, true) else if (fol o (cs.getD k []) 0 0).2 = 1 then pass (cs.drop (k + 1)) (o ++ [(fol o (cs.getD k []) 0 0).1]) else pass (cs.drop (k + 1)) o := by
  rw [List.drop_eq_getElem_cons h, pass]
  have e : cs.getD k [] = cs[k] := by simp [List.getD_eq_getElem?_getD, h]
  rw [e]
end Cnf

end Go.Proofs.Ytjbfgafkjejdjaa

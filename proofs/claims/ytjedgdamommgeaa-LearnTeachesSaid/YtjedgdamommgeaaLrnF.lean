/- What package learn reckons, as plain functions. -/
import Derived.Test.YtjedgdamommgeaaLrn1
import Derived.Test.YtjedgdamommgeaaLrn2
set_option linter.unusedVariables false
namespace Go.Proofs.Ytjedgdamommgeaa
namespace Tr
open Cnf

/-- what a student holds: the literals by now (keys, by atom), the atoms met, how many are of the level -/
structure Stu where
  ks : List Int
  f : Int → Int
  ms : List Int
  mf : Int → Int
  many : Int

def w64 (x : Int) : Int := IntKind.i64.wrap x

def Trail.take1 (T : Trail) (top : Int) (s : Stu) (x : Int) : Stu :=
  if T.lvl x = 0 ∨ s.f (absW x) ≠ 0 then s
  else { ks := addK s.ks (absW x), f := upd s.f (absW x) x, ms := addK s.ms (absW x), mf := upd s.mf (absW x) (w64 (s.mf (absW x) + 1)), many := if T.lvl x = top then w64 (s.many + 1) else s.many }
def Trail.takes (T : Trail) (top : Int) (s : Stu) (l : List Int) : Stu := l.foldl (T.take1 top) s

def Stu.del (s : Stu) (a : Int) : Stu := { s with ks := s.ks.erase a, f := upd s.f a 0, many := w64 (s.many - 1) }

/-- literals replaced, from the list's end on: the student, and the one that is left -/
def Trail.goes (T : Trail) (top : Int) : Stu → List Int → Stu × Option Int
  | s, [] => (s, none)
  | s, x :: r =>
    if s.f (absW x) = 0 ∨ T.lvl (absW x) ≠ top then T.goes top s r
    else if s.many = 1 then (s, some (s.f (absW x)))
    else match T.reasonL x with
      | none => (s, none)
      | some l => T.goes top (T.takes top (s.del (absW x)) l) r

def sortI (l : List Int) : List Int := l.mergeSort fun x y => decide (x ≤ y)
/-- does it follow of the rest? -/
def Trail.covers (T : Trail) (s : Stu) (x : Int) : Bool :=
  match T.reasonL (w64 (-x)) with
  | some l => !(l.any fun y => s.f (absW y) == 0)
  | none => false
def Trail.others (T : Trail) (s : Stu) (first : Int) : List Int :=
  ((sortI s.ks).map s.f).filter fun x => !(x == first || T.covers s x)

def Stu.new : Stu := ⟨[], fun _ => 0, [], fun _ => 0, 0⟩
def Trail.top (T : Trail) (c : List Int) : Int := c.foldl (fun t l => max t (T.lvl l)) 0

structure Less where
  clause : List Int
  back : Int
  atoms : List Int
/-- what a conflict teaches -/
def Trail.lesson (T : Trail) (k : Int) : Option (Option Less) :=
  match T.clauseL k with
  | none => none
  | some c =>
    if c.any (fun l => decide (0 ≤ T.val l)) then none
    else if T.top c = 0 then some none
    else match T.goes (T.top c) (T.takes (T.top c) Stu.new c) T.lits.reverse with
      | (_, none) => none
      | (s, some first) => some (some ⟨first :: T.others s first, (T.others s first).foldl (fun b l => max b (T.lvl l)) 0, sortI s.ms⟩)
end Tr
end Go.Proofs.Ytjedgdamommgeaa

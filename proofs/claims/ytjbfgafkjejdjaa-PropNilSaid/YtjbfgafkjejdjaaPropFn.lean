/- The trail of package prop as plain data, and what its functions do to it. No program in sight. -/
import Derived.Test.YtjbfgafkjejdjaaRupFn
namespace Go.Proofs.Ytjbfgafkjejdjaa
theorem getD_set1 {α : Type} {l : List α} {i : Nat} (h : i < l.length) (x d : α) : (l.set i x).getD i d = x := by
  simp [List.getD_eq_getElem?_getD, h]
theorem getD_set2 {α : Type} {l : List α} {i j : Nat} (h : i ≠ j) (x d : α) : (l.set i x).getD j d = l.getD j d := by
  simp [List.getD_eq_getElem?_getD, List.getElem?_set, h]

namespace Tr
open Cnf

abbrev place := Rup.place

structure Trail where
  n : Nat
  cls : List (List Int)
  gone : List Bool
  watch : List (List Nat)
  /-- literal, level, reason -/
  ents : List (Int × Nat × Int)
  /-- where a level begins, and what was gone through then -/
  levels : List (Nat × Nat)
  next : Nat
  short : List Nat
  weak : List Nat

def Trail.lits (T : Trail) : List Int := T.ents.map (·.1)
def Trail.val (T : Trail) (l : Int) : Int := value T.lits l
def Trail.cl (T : Trail) (k : Nat) : List Int := T.cls.getD k []
def Trail.wt (T : Trail) (p : Nat) : List Nat := T.watch.getD p []

/-- what is known of an atom: value, level, reason -/
def atomOf (ents : List (Int × Nat × Int)) (a : Nat) : Int × Int × Int :=
  match ents.find? (fun x => x.1.natAbs == a) with
  | some x => (if x.1 < 0 then -1 else 1, (x.2.1 : Int), x.2.2)
  | none => (0, 0, 0)

def swapL (c : List Int) (i j : Nat) : List Int := (c.set i (c.getD j 0)).set j (c.getD i 0)

def Trail.put (T : Trail) (l : Int) (r : Int) : Trail := { T with ents := T.ents ++ [(l, T.levels.length, r)] }
def Trail.setC (T : Trail) (k : Nat) (c : List Int) : Trail := { T with cls := T.cls.set k c }
def Trail.setW (T : Trail) (p : Nat) (l : List Nat) : Trail := { T with watch := T.watch.set p l }

def Trail.dec (T : Trail) (l : Int) : Trail := ({ T with levels := T.levels ++ [(T.ents.length, T.next)] } : Trail).put l (-1)

def Trail.backTo (T : Trail) (k : Nat) : Trail :=
  { T with ents := T.ents.take (T.levels.getD k (0, 0)).1, levels := T.levels.take k, next := min T.next (T.levels.getD k (0, 0)).2, short := T.short ++ T.weak, weak := [] }
def Trail.back (T : Trail) (to : Int) : Trail := if to.toNat < T.levels.length then T.backTo to.toNat else T

def addW (W : List (List Nat)) (ls : List Int) (n : Nat) : List (List Nat) := ls.foldl (fun W l => W.set (place l) (W.getD (place l) [] ++ [n])) W
def delW (W : List (List Nat)) (ls : List Int) (n : Nat) : List (List Nat) := ls.foldl (fun W l => W.set (place l) ((W.getD (place l) []).filter (· != n))) W

def Trail.add (T : Trail) (c : List Int) : Trail :=
  { T with cls := T.cls ++ [c], gone := T.gone ++ [false], watch := addW T.watch (c.take 2) T.cls.length, short := T.short ++ [T.cls.length] }

def Trail.there (T : Trail) (k : Int) : Bool := decide (0 ≤ k ∧ k < (T.cls.length : Int)) && !T.gone.getD k.toNat true
def Trail.drop (T : Trail) (k : Int) : Trail :=
  if T.there k then { T with gone := T.gone.set k.toNat true, watch := delW T.watch ((T.cl k.toNat).take 2) k.toNat } else T

def maxI : Int := 9223372036854775807
def Trail.rank (T : Trail) (l : Int) : Int := if T.val l = 1 then maxI else if T.val l = 0 then maxI - 1 else (atomOf T.ents l.natAbs).2.1

/-- the best of the places ks, or b -/
def Trail.best (T : Trail) (c : List Int) : List Nat → Nat → Nat
  | [], b => b
  | k :: r, b => T.best c r (if T.rank (c.getD b 0) < T.rank (c.getD k 0) then k else b)
def Trail.bestAt (T : Trail) (c : List Int) (i : Nat) : Nat := T.best c ((List.range c.length).drop (i + 1)) i
def Trail.rew1 (T : Trail) (c : List Int) (i : Nat) : List Int := swapL c i (T.bestAt c i)
def Trail.rewatch (T : Trail) (c : List Int) : List Int := (List.range (min c.length 2)).foldl T.rew1 c

def Trail.first0 (T : Trail) (k : Nat) : Trail :=
  { T with cls := T.cls.set k (T.rewatch (T.cl k)), watch := addW (delW T.watch ((T.cl k).take 2) k) ((T.rewatch (T.cl k)).take 2) k }
def Trail.firstV (T : Trail) (c : List Int) (k : Nat) : Trail × Bool :=
  if c.length = 0 ∨ T.val (c.getD 0 0) < 0 then (T, false)
  else if 1 < c.length ∧ 0 ≤ T.val (c.getD 1 0) then (T, true)
  else if T.val (c.getD 0 0) = 0 then ({ T with weak := T.weak ++ [k] }.put (c.getD 0 0) k, true)
  else ({ T with weak := T.weak ++ [k] }, true)
def Trail.first (T : Trail) (k : Nat) : Trail × Bool := (T.first0 k).firstV (T.rewatch (T.cl k)) k

/-- the first of the places ks that may be so -/
def Trail.findM (T : Trail) (c : List Int) : List Nat → Option Nat
  | [] => none
  | k :: r => if 0 ≤ T.val (c.getD k 0) then some k else T.findM c r
def Trail.moveTo (T : Trail) (k j : Nat) : Trail :=
  let c := swapL (T.cl k) 1 j
  { T with cls := T.cls.set k c, watch := T.watch.set (place (c.getD 1 0)) (T.wt (place (c.getD 1 0)) ++ [k]) }
def Trail.moves (T : Trail) (k : Nat) : Trail × Bool :=
  match T.findM (T.cl k) ((List.range (T.cl k).length).drop 2) with
  | some j => (T.moveTo k j, true)
  | none => (T, false)

/-- a clause is turned so that l does not stand first -/
def turn (l : Int) (c : List Int) : List Int := if 1 < c.length ∧ c.getD 0 0 = l then swapL c 0 1 else c

def Trail.visit (T : Trail) (l : Int) : List Nat → List Nat → Trail × Int
  | [], kept => (T.setW (place l) kept, -1)
  | k :: r, kept =>
    let c := turn l (T.cl k)
    let T1 := T.setC k c
    if 1 < c.length ∧ T1.val (c.getD 0 0) ≤ 0 ∧ (T1.moves k).2 then (T1.moves k).1.visit l r kept
    else if T1.val (c.getD 0 0) = -1 then (T1.setW (place l) (kept ++ k :: r), k)
    else if T1.val (c.getD 0 0) = 0 then (T1.put (c.getD 0 0) k).visit l r (kept ++ [k])
    else T1.visit l r (kept ++ [k])

/-- following: to an end -/
inductive Foll : Trail → Trail → Int → Prop
  | done {T : Trail} : T.short = [] → T.next = T.ents.length → Foll T T (-1)
  | conf {T T' : Trail} {k : Int} : T.next < T.ents.length → T.visit (-(T.lits.getD T.next 0)) (T.wt (place (-(T.lits.getD T.next 0)))) [] = (T', k) → 0 ≤ k → Foll T T' k
  | step {T T' T2 : Trail} {k r : Int} : T.next < T.ents.length → T.visit (-(T.lits.getD T.next 0)) (T.wt (place (-(T.lits.getD T.next 0)))) [] = (T', k) → k < 0 → Foll { T' with next := T'.next + 1 } T2 r → Foll T T2 r
  | skip {T T2 : Trail} {k : Nat} {s : List Nat} {r : Int} : T.next = T.ents.length → T.short = k :: s → T.there k = false → Foll { T with short := s } T2 r → Foll T T2 r
  | bad {T T' : Trail} {k : Nat} {s : List Nat} : T.next = T.ents.length → T.short = k :: s → T.there k = true → T.first k = (T', false) → Foll T T' k
  | look {T T' T2 : Trail} {k : Nat} {s : List Nat} {r : Int} : T.next = T.ents.length → T.short = k :: s → T.there k = true → T.first k = (T', true) → Foll { T' with short := s } T2 r → Foll T T2 r

/-- WHAT THE WALKS ASK. -/
structure Ok (T : Trail) : Prop where
  n : T.n ≤ 65536
  gl : T.gone.length = T.cls.length
  wl : T.watch.length = 2 * T.n
  cls : ∀ c ∈ T.cls, Up.Good T.n c
  cb : T.cls.length ≤ 2147483648
  good : Up.Good T.n T.lits
  sm : ∀ k ∈ T.short ++ T.weak, k < T.cls.length
  next : T.next ≤ T.ents.length
  lev : (T.levels.map (·.1)).Pairwise (· < ·)
  lin : ∀ x ∈ T.levels, x.1 < T.ents.length
  rea : ∀ x ∈ T.ents, -1 ≤ x.2.2 ∧ x.2.2 < 2147483648 ∧ x.2.1 ≤ T.levels.length

/-- EACH CLAUSE THAT IS THERE IS WATCHED BY ITS FIRST TWO LITERALS, just there and once. -/
structure Wat (T : Trail) : Prop where
  nd : ∀ p, (T.wt p).Nodup
  snd : ∀ p, ∀ k ∈ T.wt p, k < T.cls.length ∧ T.gone.getD k true = false ∧ ∃ i, i < 2 ∧ i < (T.cl k).length ∧ place ((T.cl k).getD i 0) = p
  cpl : ∀ k, k < T.cls.length → T.gone.getD k true = false → ∀ i, i < 2 → i < (T.cl k).length → k ∈ T.wt (place ((T.cl k).getD i 0))

end Tr
end Go.Proofs.Ytjbfgafkjejdjaa

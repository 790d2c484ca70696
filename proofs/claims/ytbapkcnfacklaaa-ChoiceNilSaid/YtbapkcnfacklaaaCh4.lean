/- choice.Ground: rows of numbers; what Choices builds, plain. -/
import Derived.Test.YtbapkcnfacklaaaCh3
import Derived.Test.YtbapkcnfacklaaaNd2
set_option linter.unusedVariables false
namespace Go.Proofs.Ytbapkcnfacklaaa
open Go.RowKit
def Tab.nums (T : Tab) : List At → Tab × List Int
 | [] => (T, [])
 | a :: r => (((T.num a).1.nums r).1, (T.num a).2 :: ((T.num a).1.nums r).2)
theorem Tab.nums_snoc : ∀ (l : List At) (T : Tab) (a : At), T.nums (l ++ [a]) = (((T.nums l).1.num a).1, (T.nums l).2 ++ [((T.nums l).1.num a).2])
 | [], T, a => rfl
 | b :: r, T, a => by
  rw [List.cons_append, Tab.nums, Tab.nums_snoc r, Tab.nums]
  rfl
theorem Tab.nums_len : ∀ (l : List At) (T : Tab), (T.nums l).2.length = l.length
 | [], _ => rfl
 | b :: r, T => by rw [Tab.nums, List.length_cons, List.length_cons, Tab.nums_len r]
structure Tab.Ok (T : Tab) : Prop where
 lim : T.limit ≤ 65536
 len : T.l.length ≤ T.limit
theorem Tab.num_ok {T : Tab} (h : T.Ok) (a : At) : (T.num a).1.Ok ∧ 0 ≤ (T.num a).2 ∧ (T.num a).2 ≤ 65536 := by
 have h1 := h.lim
 have h2 := h.len
 unfold Tab.num
 split
 ·rename_i hm
  refine ⟨h, by simp, ?_⟩
  have := List.idxOf_lt_length_of_mem hm
  simp only [numOf, if_pos hm]
  omega
 ·split
  ·exact ⟨⟨h1, h2⟩, by simp, by simp⟩
  ·rename_i hlt
   refine ⟨⟨h1, ?_⟩, by simp; omega, by simp; omega⟩
   simp; omega
theorem Tab.nums_ok : ∀ (l : List At) {T : Tab}, T.Ok → (T.nums l).1.Ok ∧ ∀ z ∈ (T.nums l).2, 0 ≤ z ∧ z ≤ 65536
 | [], T, h => ⟨h, fun z hz => by cases hz⟩
 | a :: r, T, h => by
  obtain ⟨h1, h2⟩ := Tab.num_ok h a
  obtain ⟨h3, h4⟩ := Tab.nums_ok r h1
  refine ⟨h3, fun z hz => ?_⟩
  rw [Tab.nums] at hz
  rcases List.mem_cons.1 hz with rfl | hz
  ·exact h2
  ·exact h4 z hz
def nodeA (p : Nat) : At := (1, p, 0, 0)
def relA (p i : Nat) : At := (2, p, i, 0)
def valA (p j k : Nat) : At := (3, p, j, k)
def relAs (p n : Nat) : List At := (List.range n).map (relA p)
def valAs (p j n : Nat) : List At := (List.range n).map (valA p j)
theorem relAs_succ (p n : Nat) : relAs p (n + 1) = relAs p n ++ [relA p n] := by unfold relAs; rw [List.range_succ, List.map_append]; rfl
theorem valAs_succ (p j n : Nat) : valAs p j (n + 1) = valAs p j n ++ [valA p j n] := by unfold valAs; rw [List.range_succ, List.map_append]; rfl
abbrev TB := Tab × Bld
def TB.row (S : TB) (node : Int) (ats : List At) : TB := ((S.1.nums ats).1, S.2.one node (S.1.nums ats).2)
def TB.vars (S : TB) (node : Int) (p : Nat) (vs : List VarD) : Nat → TB
 | 0 => S
 | j + 1 => (S.vars node p vs j).row node (valAs p j (vs.getD j default).values.length)
def TB.pack (S : TB) (p : Nat) (pk : PackD) : TB :=
 (TB.row ((S.1.num (nodeA p)).1, S.2) (S.1.num (nodeA p)).2 (relAs p pk.rels.length)).vars (S.1.num (nodeA p)).2 p pk.vars pk.vars.length
def TB.choices (S : TB) (x : RecD) (l : List Nat) : TB := l.foldl (fun S p => S.pack p (x.pack p)) S
theorem TB.choices_snoc (S : TB) (x : RecD) (l : List Nat) (p : Nat) : S.choices x (l ++ [p]) = (S.choices x l).pack p (x.pack p) := by simp [TB.choices]
theorem TB.vars_ok {S : TB} (h : S.1.Ok) (node : Int) (p : Nat) (vs : List VarD) : ∀ j, (S.vars node p vs j).1.Ok
 | 0 => h
 | j + 1 => (Tab.nums_ok _ (TB.vars_ok h node p vs j)).1
theorem TB.pack_ok {S : TB} (h : S.1.Ok) (p : Nat) (pk : PackD) : (S.pack p pk).1.Ok :=
 TB.vars_ok (S := TB.row ((S.1.num (nodeA p)).1, S.2) (S.1.num (nodeA p)).2 (relAs p pk.rels.length)) (Tab.nums_ok _ (Tab.num_ok h _).1).1 _ _ _ _
theorem TB.choices_ok {S : TB} (h : S.1.Ok) (x : RecD) (l : List Nat) : (S.choices x l).1.Ok := by
 unfold TB.choices
 induction l generalizing S with
 | nil => exact h
 | cons a r ih => exact ih (TB.pack_ok h _ _)
section
variable {w w2 wr : World} {gt gb gt1 gb1 : Tag} {c bt bb : Nat} {G : GrV} {T : Tab} {B : Bld}
def RowG (w2 : World) (gt1 gb1 : Tag) (c bt bb : Nat) (G : GrV) (T : Tab) (B : Bld) (wr : World) (v : Value) (xs : List Int) : Prop :=
 ∃ gt' gb', GrAt wr gt' gb' c bt bb G T B ∧ Agree w2 gt1 gt' ∧ Agree w2 gb1 gb' ∧ Only (fun k => Mine gt1 k ∨ Mine gb1 k) w2 wr ∧ wr.ownsRow 0 3 1 v xs.length (xs.map cI) ∧ Beside wr gt' gb' c v ∧ ∀ k, v.ownBlock = some k → w2.heap.size ≤ k
theorem RowG.start (h : GrTo w2 gt1 gb1 c bt bb G T B wr) : RowG w2 gt1 gb1 c bt bb G T B wr nilS [] := by
 obtain ⟨a, b, H, A, A', O⟩ := h
 exact ⟨a, b, H, A, A', O, World.ownsRow_nil _ _ _ _, (fun k hk => by cases hk), fun k hk => by cases hk⟩
theorem RowG.num {v : Value} {xs : List Int} (h : RowG w2 gt1 gb1 c bt bb G T B wr v xs) {x : At} (hx : AtOk x) (r : Int) (hr : (T.num x).2 = r) :
  Calls Try.prog 12 #[.pointer (some ⟨c, 0, none⟩), encA x] wr fun e w' => e = .returned (.int .i64 r) ∧ RowG w2 gt1 gb1 c bt bb G (T.num x).1 B w' v xs := by
 obtain ⟨a, b, H, A, A', O, R, S, N⟩ := h
 refine (Number_gr H hx r hr).mono ?_
 rintro e w' ⟨rfl, a2, b2, H2, A2, A2', O2⟩
 refine ⟨rfl, a2, b2, H2, A.trans A2 O.size, A'.trans A2' O.size, O.mine2 A A' O2, own_only R O2 fun k hk hm => ?_, S.more O2.size A2 A2', N⟩
 have hk' : Value.blk v = some k := by
  obtain ⟨ao, cap, rfl, -, -⟩ := own_slice R
  cases ao with
  | none => cases hk
  | some ad => exact hk
 rcases hm with hm | hm
 ·exact (S k hk').2.1 hm
 ·exact (S k hk').2.2.1 hm
theorem RowG.app {v v' : Value} {xs : List Int} (h : RowG w2 gt1 gb1 c bt bb G T B wr v xs) {w3 w4 : World} (o3 : Only (fun _ => False) wr w3) {z : Int} (r : w4.ownsRow 0 3 1 v' (xs.length + 1) (xs.map cI ++ [cI z])) (o : Only (fun k => v.ownBlock = some k) w3 w4) (a : AppTo w3 v v' (xs.length + 1)) :
  RowG w2 gt1 gb1 c bt bb G T B w4 v' (xs ++ [z]) := by
 obtain ⟨gt', gb', H, A, A', O, R, S, N⟩ := h
 have hbl : ∀ k, v.ownBlock = some k → Value.blk v = some k := fun k hk => by
  obtain ⟨ao, cap, rfl, -, -⟩ := own_slice R
  cases ao with
  | none => cases hk
  | some ad => exact hk
 have o4 : Only (fun k => v.ownBlock = some k) wr w4 := (o3.mono fun _ f => f.elim).same o
 have H4 := H.only o4 (fun k hk hv => by
  obtain ⟨-, s1, s2, -⟩ := S k (hbl k hv)
  rcases hk with hk | hk
  ·exact s1 hk
  ·exact s2 hk) (fun hv => (S c (hbl c hv)).2.2.2 rfl)
 refine ⟨gt', gb', H4, A, A', O.trans o4 fun k hk => .inr (N k hk), by simpa using r, fun k hk => ?_, fun k hk => ?_⟩
 ·obtain ⟨g, cap, rfl, -, -, hg⟩ := a
  simp [Value.blk] at hk
  subst hk
  rcases hg with hg | hg
  ·obtain ⟨s0, s1, s2, s3⟩ := S g (hbl g hg)
   exact ⟨by have := o4.size; omega, s1, s2, s3⟩
  ·have hlt : g < w4.heap.size := own_lt r rfl
   have := o3.size
   obtain ⟨V, hV⟩ := H.tab
   obtain ⟨U, hU⟩ := H.bld
   have hc := lt_block H.blk
   refine ⟨hlt, ?_, ?_, by omega⟩
   ·unfold Mine; rw [hV.fresh g (by omega)]; simp
   ·unfold Mine; rw [hU.fresh g (by omega)]; simp
 ·obtain ⟨g, cap, rfl, -, -, hg⟩ := a
  simp [Value.ownBlock] at hk
  subst hk
  rcases hg with hg | hg
  ·exact N g hg
  ·have := O.size; have := o3.size; omega
theorem RowG.ints {v : Value} {xs : List Int} (h : RowG w2 gt1 gb1 c bt bb G T B wr v xs) (hx : ∀ z ∈ xs, 0 ≤ z ∧ z ≤ 65536) : ∃ gt' gb', GrAt wr gt' gb' c bt bb G T B ∧ Agree w2 gt1 gt' ∧ Agree w2 gb1 gb' ∧ Only (fun k => Mine gt1 k ∨ Mine gb1 k) w2 wr ∧ Ints wr v xs ∧ NotM gt' gb' v xs := by
 obtain ⟨a, b, H, A, A', O, R, S, -⟩ := h
 exact ⟨a, b, H, A, A', O, Ints.of_own R fun z hz => ⟨by have := hx z hz; omega, by have := hx z hz; omega⟩, fun _ k hk => ⟨(S k hk).2.1, (S k hk).2.2.1⟩⟩
theorem RowG.one {v : Value} {xs : List Int} (h : RowG w2 gt1 gb1 c bt bb G T B wr v xs) (hx : ∀ z ∈ xs, 0 ≤ z ∧ z ≤ 65536) (hl : xs.length ≤ 1000000) (node : Int) (hb : 0 ≤ node ∧ node ≤ 65536) :
  Calls Try.prog 26 #[.pointer (some ⟨c, 0, none⟩), .int .i64 node, v] wr fun e w' => e = .returned (.tuple #[]) ∧ GrTo w2 gt1 gb1 c bt bb G T (B.one node xs) w' := by
 obtain ⟨a, b, H, A, A', O, I, N⟩ := h.ints hx
 exact (one_gr H I N node ⟨by omega, by omega⟩ (fun z hz => by have := hx z hz; omega) hl).mono fun e w' ⟨he, h⟩ => ⟨he, GrTo.trans A A' O h⟩
end
end Go.Proofs.Ytbapkcnfacklaaa

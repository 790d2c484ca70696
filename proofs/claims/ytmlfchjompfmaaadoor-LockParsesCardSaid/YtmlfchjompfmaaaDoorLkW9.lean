/- lock.text: a graph's text is built. -/
import Derived.Test.YtmlfchjompfmaaaDoorLkB
import Derived.Test.YtmlfchjompfmaaaDoorLkW3
set_option linter.unusedVariables false
namespace Go.Proofs.YtmlfchjompfmaaaDoor
open Go.RowKit
open Lk (nodeP needP headL nodeL needL nodeLs bodyG joinL textG setL)
section
variable {w w' : World} {B : Nat}
def SmallN (n : NodeD) : Prop := n.name.size ≤ 100 ∧ n.version.size ≤ 100 ∧ n.sets.length ≤ 50 ∧ (∀ s ∈ n.sets, s.name.size ≤ 100 ∧ s.value.size ≤ 100) ∧ n.needs.length ≤ 50 ∧ ∀ s ∈ n.needs, s.size ≤ 100
def SmallG (g : List NodeD) : Prop := g.length ≤ 30 ∧ ∀ n ∈ g, SmallN n
theorem strCells_toList (s : Str) : Lib.strCells s = Lib.byteCells s.toList := by
 unfold Lib.strCells Lib.byteCells
 rw [toList_data]
theorem byteCells_append (a b : List UInt8) : Lib.byteCells (a ++ b) = Lib.byteCells a ++ Lib.byteCells b := by simp [Lib.byteCells]
theorem byteCells_len (a : List UInt8) : (Lib.byteCells a).length = a.length := by simp [Lib.byteCells]
structure BW (w0 : World) (b : Nat) (acc : List UInt8) (w : World) : Prop where
 at_ : ∃ p, BAt b b p (Lib.byteCells acc) w ∧ (p = .pointer none ∨ p = .pointer (some ⟨b, 0, none⟩))
 below : Below b w0 w
 size : w0.heap.size ≤ w.heap.size
 kept : KeptU b w0 w
theorem BW.write {w0 : World} {b : Nat} {acc : List UInt8} (h : BW w0 b acc w) (s : Str) (hl : acc.length + s.size ≤ 140737488355328) (hb : b ≤ w.heap.size) :
  Calls Tryd.prog 55 #[.pointer (some ⟨b, 0, none⟩), .string s] w fun e w' => e = .returned (.tuple #[.int .i64 s.size, .nilIface]) ∧ BW w b (acc ++ s.toList) w' := by
 obtain ⟨p, hp, hq⟩ := h.at_
 refine (WriteString_x (B := b) s ?_ (by rw [byteCells_len]; exact hl) hb).mono ?_
 ·rcases hq with rfl | rfl
  ·exact .inl hp
  ·exact .inr hp
 ·rintro e w' ⟨rfl, h1, h2, h3, h4⟩
  refine ⟨rfl, ⟨_, ?_, .inr rfl⟩, h2, h4, h3⟩
  rw [byteCells_append, ← strCells_toList]
  exact h1
theorem toList_append (a b : Str) : (a ++ b).toList = a.toList ++ b.toList := by
 rw [toList_data, toList_data, toList_data, ByteArray.data_append]; simp
structure TI (w : World) (acc : List UInt8) (W : World) : Prop where
 at_ : ∃ p, BAt (w.heap.size + 1) (w.heap.size + 1) p (Lib.byteCells acc) W ∧ (p = .pointer none ∨ p = .pointer (some ⟨w.heap.size + 1, 0, none⟩))
 only : Only (fun k => w.heap.size ≤ k) w W
 size : w.heap.size + 2 ≤ W.heap.size
theorem BAt.grow {B b : Nat} {p : Value} {bs : List Value} {W : World} (h : BAt B b p bs W) (o : Obj) : BAt B b p bs (W.alloc o) := by
 obtain ⟨hB, v, hbk, hown, hne⟩ := h
 have ho : Only (fun _ => False) W (W.alloc o) := (Only.refl _ _).alloc _
 exact ⟨hB, v, (ho.block b (Array.getElem?_eq_some_iff.1 hbk).1 (fun f => f)).trans hbk, own_only hown ho (fun _ _ f => f), hne⟩
theorem TI.alloc {acc : List UInt8} {W : World} (h : TI w acc W) (o : Obj) : TI w acc (W.alloc o) := by
 obtain ⟨p, hp, hq⟩ := h.at_
 exact ⟨⟨p, hp.grow o, hq⟩, h.only.alloc o, by have := h.size; simp; omega⟩
theorem TI.write {acc : List UInt8} {W : World} (h : TI w acc W) (s : Str) (hl : acc.length + s.size ≤ 140737488355328) :
  Calls Tryd.prog 55 #[.pointer (some ⟨w.heap.size + 1, 0, none⟩), .string s] W fun e w' => e = .returned (.tuple #[.int .i64 s.size, .nilIface]) ∧ TI w (acc ++ s.toList) w' ∧ KeptU (w.heap.size + 1) W w' ∧ W.heap.size ≤ w'.heap.size := by
 refine (BW.write (w0 := W) (b := w.heap.size + 1) (acc := acc) ⟨h.at_, Below.refl _ _, Nat.le_refl _, KeptU.refl _ _⟩ s hl (by have := h.size; omega)).mono ?_
 rintro e w' ⟨rfl, h2⟩
 exact ⟨rfl, ⟨h2.at_, h.only.trans (Only.of_below h2.below) fun k hk => .inl (by omega), Nat.le_trans h.size h2.size⟩, h2.kept, h2.size⟩
theorem KeptU.blk {b k : Nat} {W W' : World} {c : Array Value} {t : TypeId} (h : KeptU b W W') (hk : W.heap[k]? = some (.cells c t (0, 0))) (hne : k ≠ b) (ht : t ≠ 5) : W'.heap[k]? = some (.cells c t (0, 0)) :=
 (h k (Array.getElem?_eq_some_iff.1 hk).1 hne (fun c' f e => by rw [hk] at e; simp only [Option.some.injEq, Obj.cells.injEq] at e; exact ht e.2.1)).trans hk
theorem SmallN.len {n : NodeD} (h : SmallN n) : (joinL (nodeLs n.toB)).length ≤ 20000 := by
 obtain ⟨h1, h2, h3, h4, h5, h6⟩ := h
 have hs : ∀ l : List SetD, (∀ s ∈ l, s.name.size ≤ 100 ∧ s.value.size ≤ 100) → ((l.map SetD.toB).flatMap fun s => 32 :: setL s).length ≤ l.length * 202 := by
  intro l
  induction l with
  | nil => intro _; simp
  | cons s l ih =>
   intro h
   have := ih fun x hx => h x (List.mem_cons_of_mem _ hx)
   have hs := h s List.mem_cons_self
   simp only [List.map_cons, List.flatMap_cons, List.length_append, List.length_cons, setL, SetD.toB, size_toList] at this ⊢
   omega
 have hn : ∀ l : List Str, (∀ s ∈ l, s.size ≤ 100) → (joinL ((l.map ByteArray.toList).map needL)).length ≤ l.length * 109 := by
  intro l
  induction l with
  | nil => intro _; simp [joinL]
  | cons s l ih =>
   intro h
   have := ih fun x hx => h x (List.mem_cons_of_mem _ hx)
   have hs := h s List.mem_cons_self
   simp only [joinL, List.map_cons, List.flatMap_cons, List.length_append, List.length_cons, List.length_nil, needL, needP, size_toList] at this ⊢
   omega
 have a1 := hs n.sets h4
 have a2 := hn n.needs h6
 have e1 : (joinL (nodeLs n.toB)) = nodeL n.toB ++ [10] ++ joinL ((n.needs.map ByteArray.toList).map needL) := by simp [joinL, nodeLs, NodeD.toB]
 have e2 : (nodeL n.toB).length = 5 + n.name.size + 1 + n.version.size + ((n.sets.map SetD.toB).flatMap fun s => 32 :: setL s).length := by
  simp only [nodeL, nodeP, NodeD.toB, List.length_append, List.length_cons, List.length_nil, size_toList]; omega
 rw [e1, List.length_append, List.length_append, e2]
 simp only [List.length_cons, List.length_nil]
 have : n.sets.length * 202 ≤ 50 * 202 := Nat.mul_le_mul_right _ h3
 have : n.needs.length * 109 ≤ 50 * 109 := Nat.mul_le_mul_right _ h5
 omega
def txtTo (g : List NodeD) (i : Nat) : List UInt8 := joinL (headL :: bodyG (toG (g.take i)))
theorem txtTo_next {g : List NodeD} {i : Nat} {x : NodeD} (hx : g[i]? = some x) : txtTo g (i + 1) = txtTo g i ++ joinL (nodeLs x.toB) := by
 unfold txtTo
 have e : g.take (i + 1) = g.take i ++ [x] := by rw [List.take_add_one, hx]; rfl
 rw [e]
 simp [toG, bodyG, joinL]
theorem txtTo_len {g : List NodeD} (h : SmallG g) : ∀ i, i ≤ g.length → (txtTo g i).length ≤ 7 + i * 20000
 | 0, _ => by simp [txtTo, toG, bodyG, joinL, headL]
 | i + 1, hi => by
  have ih := txtTo_len h i (by omega)
  have hx : g[i]? = some g[i] := List.getElem?_eq_getElem (by omega)
  rw [txtTo_next hx, List.length_append]
  have := (h.2 _ (List.mem_of_getElem? hx)).len
  omega
def lineTo (x : NodeD) (k : Nat) : List UInt8 := nodeP ++ x.name.toList ++ 32 :: x.version.toList ++ ((x.sets.take k).map SetD.toB).flatMap fun s => 32 :: setL s
theorem lineTo_next {x : NodeD} {k : Nat} {s : SetD} (hs : x.sets[k]? = some s) : lineTo x (k + 1) = lineTo x k ++ (32 :: s.name.toList ++ 61 :: s.value.toList) := by
 unfold lineTo
 have e : x.sets.take (k + 1) = x.sets.take k ++ [s] := by rw [List.take_add_one, hs]; rfl
 rw [e]
 simp [setL, SetD.toB]
theorem lineTo_len {x : NodeD} (h : SmallN x) : ∀ k, k ≤ x.sets.length → (lineTo x k).length ≤ 206 + k * 202
 | 0, _ => by
  have := h.1; have := h.2.1
  simp only [lineTo, List.take_zero, List.map_nil, List.flatMap_nil, List.append_nil, nodeP, List.length_append, List.length_cons, List.length_nil, size_toList]; omega
 | k + 1, hk => by
  have ih := lineTo_len h k (by omega)
  have hs : x.sets[k]? = some x.sets[k] := List.getElem?_eq_getElem (by omega)
  rw [lineTo_next hs]
  have := h.2.2.2.1 _ (List.mem_of_getElem? hs)
  simp only [List.length_append, List.length_cons, size_toList]; omega
theorem lineTo_all {x : NodeD} {k : Nat} (h : x.sets.length ≤ k) : lineTo x k = nodeL x.toB := by
 unfold lineTo nodeL NodeD.toB
 rw [List.take_of_length_le h]
def needTo (x : NodeD) (k : Nat) : List UInt8 := joinL (((x.needs.take k).map ByteArray.toList).map needL)
theorem needTo_next {x : NodeD} {k : Nat} {s : Str} (hs : x.needs[k]? = some s) : needTo x (k + 1) = needTo x k ++ (needP ++ s.toList ++ [10]) := by
 unfold needTo
 have e : x.needs.take (k + 1) = x.needs.take k ++ [s] := by rw [List.take_add_one, hs]; rfl
 rw [e]
 simp [joinL, needL]
theorem needTo_len {x : NodeD} (h : SmallN x) : ∀ k, k ≤ x.needs.length → (needTo x k).length ≤ k * 109
 | 0, _ => by simp [needTo, joinL]
 | k + 1, hk => by
  have ih := needTo_len h k (by omega)
  have hs : x.needs[k]? = some x.needs[k] := List.getElem?_eq_getElem (by omega)
  rw [needTo_next hs]
  have := h.2.2.2.2.2 _ (List.mem_of_getElem? hs)
  simp only [List.length_append, List.length_cons, List.length_nil, needP, size_toList]; omega
theorem node_text {x : NodeD} : joinL (nodeLs x.toB) = nodeL x.toB ++ [10] ++ needTo x x.needs.length := by
 unfold needTo
 rw [List.take_of_length_le (Nat.le_refl _)]
 simp [joinL, nodeLs, NodeD.toB]
end
end Go.Proofs.YtmlfchjompfmaaaDoor

/- Graphs as plain data, and how they lie in memory: read, and as the call's own. -/
import Derived.Test.YtmlfchjompfmaaaDoorLkS
import Derived.Test.YtmlfchjompfmaaaDoorStrA
import Derived.Test.YtmlfchjompfmaaaDoorStepA
import Derived.Test.YtmlfchjompfmaaaDoorOwnT
import Derived.Test.YtmlfchjompfmaaaDoorVeA
import Derived.Laws.Rows
import Derived.Laws.Tables
set_option linter.unusedVariables false
namespace Go.Proofs.YtmlfchjompfmaaaDoor
open Go.RowKit
open Lk (NB)
structure NodeD where
 name : Str
 version : Str
 sets : List SetD
 needs : List Str
instance : Inhabited NodeD := ⟨⟨.empty, .empty, [], []⟩⟩
def SetD.toB (s : SetD) : List UInt8 × List UInt8 := (s.name.toList, s.value.toList)
def NodeD.toB (n : NodeD) : NB := ⟨n.name.toList, n.version.toList, n.sets.map SetD.toB, n.needs.map ByteArray.toList⟩
abbrev toG (g : List NodeD) : List NB := g.map NodeD.toB
theorem map_inj' {α β : Type} {f : α → β} (hf : ∀ a b, f a = f b → a = b) : ∀ {l m : List α}, l.map f = m.map f → l = m
 | [], [], _ => rfl
 | [], _ :: _, h => by cases h
 | _ :: _, [], h => by cases h
 | a :: l, b :: m, h => by
  simp only [List.map_cons, List.cons.injEq] at h
  rw [hf a b h.1, map_inj' hf h.2]
theorem SetD.toB_inj (a b : SetD) (h : a.toB = b.toB) : a = b := by
 obtain ⟨a1, a2⟩ := a; obtain ⟨b1, b2⟩ := b
 simp only [SetD.toB, Prod.mk.injEq] at h
 rw [toList_inj h.1, toList_inj h.2]
theorem NodeD.toB_inj (a b : NodeD) (h : a.toB = b.toB) : a = b := by
 obtain ⟨a1, a2, a3, a4⟩ := a; obtain ⟨b1, b2, b3, b4⟩ := b
 simp only [NodeD.toB, NB.mk.injEq] at h
 rw [toList_inj h.1, toList_inj h.2.1, map_inj' SetD.toB_inj h.2.2.1, map_inj' (fun _ _ => toList_inj) h.2.2.2]
theorem toG_inj {g h : List NodeD} (e : toG g = toG h) : g = h := map_inj' NodeD.toB_inj e
def NodC (B : Nat) (w : World) (cs : List Value) (x : NodeD) : Prop := ∃ v1 v2, cs = [.string x.name, .string x.version, v1, v2] ∧ okS x.name ∧ okS x.version ∧ RowT 2 SetC B w v1 x.sets ∧ RowT 1 StrC B w v2 x.needs
theorem NodC.keep : Keeps NodC := fun _ _ _ _ _ ⟨v1, v2, h, a, b, c, d⟩ k => ⟨v1, v2, h, a, b, c.keep SetC.keep k, d.keep StrC.keep k⟩
theorem NodC.lift : Lifts NodC := fun _ _ _ _ _ ⟨v1, v2, h, a, b, c, d⟩ k l => ⟨v1, v2, h, a, b, c.lift SetC.lift k l, d.lift StrC.lift k l⟩
theorem NodC_at {w : World} {B : Nat} {v : Value} {xs : List NodeD} (h : RowT 4 NodC B w v xs) {i : Nat} {x : NodeD} (hx : xs[i]? = some x) :
  ∃ b off len cap a1 c1 a2 c2, v = .slice (some ⟨b, off, none⟩) len cap ∧ okS x.name ∧ okS x.version ∧ x.sets.length ≤ c1 ∧ c1 ≤ 9223372036854775807 ∧ x.needs.length ≤ c2 ∧ c2 ≤ 9223372036854775807 ∧ b < w.heap.size ∧
   (∀ W, Only (fun _ => False) w W → W.rangeAt b (off + i * 4) [.string x.name, .string x.version, .slice a1 x.sets.length c1, .slice a2 x.needs.length c2] ∧ RowT 2 SetC B W (.slice a1 x.sets.length c1) x.sets ∧ RowT 1 StrC B W (.slice a2 x.needs.length c2) x.needs) := by
 obtain ⟨hi, he⟩ := List.getElem?_eq_some_iff.1 hx
 obtain ⟨ao, cap, rfl, -, -⟩ := h.shape
 obtain ⟨b, off, rfl, hb, hB, hc⟩ := h.cells _ _ _ rfl (by omega)
 obtain ⟨cs, hl, hr, hC⟩ := hc i hi
 rw [he] at hC
 obtain ⟨v1, v2, rfl, k1, k2, r1, r2⟩ := hC
 obtain ⟨a1, c1, rfl, g1, g2⟩ := r1.shape
 obtain ⟨a2, c2, rfl, g3, g4⟩ := r2.shape
 exact ⟨b, off, _, cap, a1, c1, a2, c2, rfl, k1, k2, g1, g2, g3, g4, by omega, fun W ho => ⟨rangeAt_keep hr hb hB (Kp.of0 ho), r1.keep SetC.keep (Kp.of0 ho), r2.keep StrC.keep (Kp.of0 ho)⟩⟩
theorem only_setRow1 (w : World) (g : Nat) (cs : Array Value) : Only (fun k => k = g) w (w.setRow g cs) :=
 ⟨rfl, rfl, rfl, by simp [World.setRow], fun k hk hn => by
  unfold World.setRow
  simp only [Array.getElem?_modify]
  rw [if_neg (fun e => hn e.symm)]⟩
structure LN where
 x : NodeD
 v1 : Value
 v2 : Value
def LN.cells (n : LN) : List Value := [.string n.x.name, .string n.x.version, n.v1, n.v2]
def flatN (L : List LN) : List Value := L.flatMap LN.cells
def flatS (l : List SetD) : List Value := l.flatMap fun s => [.string s.name, .string s.value]
theorem flatN_len (L : List LN) : (flatN L).length = L.length * 4 := by
 induction L with
 | nil => rfl
 | cons n L ih =>
  have e : flatN (n :: L) = n.cells ++ flatN L := rfl
  rw [e, List.length_append, ih, List.length_cons]
  simp [LN.cells]; omega
theorem flatN_at : ∀ (L : List LN) (i : Nat) (n : LN), L[i]? = some n → ∀ (j : Nat) (u : Value), n.cells[j]? = some u → (flatN L)[i * 4 + j]? = some u
 | [], i, n, h, _, _, _ => by simp at h
 | m :: L, 0, n, h, j, u, hu => by
  simp only [List.getElem?_cons_zero, Option.some.injEq] at h
  subst h
  have e : flatN (m :: L) = m.cells ++ flatN L := rfl
  have hj : j < 4 := by have := (List.getElem?_eq_some_iff.1 hu).1; simpa [LN.cells] using this
  rw [e, List.getElem?_append_left (by simp [LN.cells]; omega), Nat.zero_mul, Nat.zero_add]
  exact hu
 | m :: L, i + 1, n, h, j, u, hu => by
  have e : flatN (m :: L) = m.cells ++ flatN L := rfl
  have ih := flatN_at L i n (by simpa using h) j u hu
  have hl : m.cells.length = 4 := rfl
  rw [e, List.getElem?_append_right (by omega), hl, show (i + 1) * 4 + j - 4 = i * 4 + j by omega]
  exact ih
theorem flatS_at : ∀ (L : List SetD) (i : Nat) (h : i < L.length) (j : Nat) (u : Value), [Value.string L[i].name, .string L[i].value][j]? = some u → (flatS L)[i * 2 + j]? = some u
 | [], i, h, _, _, _ => by simp at h
 | m :: L, 0, h, j, u, hu => by
  have e : flatS (m :: L) = [Value.string m.name, .string m.value] ++ flatS L := rfl
  have hj : j < 2 := by have := (List.getElem?_eq_some_iff.1 hu).1; simpa using this
  rw [e, List.getElem?_append_left (by simp; omega), Nat.zero_mul, Nat.zero_add]
  exact hu
 | m :: L, i + 1, h, j, u, hu => by
  have e : flatS (m :: L) = [Value.string m.name, .string m.value] ++ flatS L := rfl
  have ih := flatS_at L i (by simpa using h) j u (by simpa using hu)
  rw [e, List.getElem?_append_right (by simp; omega), show (i + 1) * 2 + j - [Value.string m.name, Value.string m.value].length = i * 2 + j by simp; omega]
  exact ih
theorem flatN_snoc (L : List LN) (n : LN) : flatN (L ++ [n]) = flatN L ++ n.cells := by simp [flatN]
theorem flatS_snoc (L : List SetD) (n : SetD) : flatS (L ++ [n]) = flatS L ++ [.string n.name, .string n.value] := by simp [flatS]
structure OwnN (B : Nat) (w : World) (n : LN) : Prop where
 k1 : okS n.x.name
 k2 : okS n.x.version
 sets : w.ownsRow 0 60 2 n.v1 n.x.sets.length (flatS n.x.sets)
 needs : w.ownsRow 0 9 1 n.v2 n.x.needs.length (strs9 n.x.needs)
 k3 : ∀ s ∈ n.x.sets, okS s.name ∧ okS s.value
 k4 : ∀ s ∈ n.x.needs, okS s
 new1 : ∀ k, n.v1.ownBlock = some k → B ≤ k
 new2 : ∀ k, n.v2.ownBlock = some k → B ≤ k
theorem OwnN.only {B : Nat} {w w' : World} {n : LN} {F : Nat → Prop} (h : OwnN B w n) (ho : Only F w w') (h1 : ∀ k, n.v1.ownBlock = some k → ¬ F k) (h2 : ∀ k, n.v2.ownBlock = some k → ¬ F k) : OwnN B w' n :=
 ⟨h.k1, h.k2, own_only h.sets ho h1, own_only h.needs ho h2, h.k3, h.k4, h.new1, h.new2⟩
theorem sets_read {w : World} {v : Value} {l : List SetD} {n : Nat} (hn : l.length = n) (h : w.ownsRow 0 60 2 v n (flatS l)) (hk : ∀ s ∈ l, okS s.name ∧ okS s.value) : RowT 2 SetC w.heap.size w v l := by
 subst hn
 refine RowT.of_own h fun i hi => ⟨[.string l[i].name, .string l[i].value], rfl, fun j u hu => flatS_at l i hi j u hu, rfl, hk _ (List.getElem_mem hi)⟩
theorem OwnN.read {B : Nat} {w : World} {n : LN} (h : OwnN B w n) : NodC w.heap.size w n.cells n.x :=
 ⟨n.v1, n.v2, rfl, h.k1, h.k2, sets_read rfl h.sets h.k3, strs_read rfl h.needs h.k4⟩
structure RowN (B : Nat) (w : World) (rv : Value) (L : List LN) : Prop where
 own : w.ownsRow 0 80 4 rv L.length (flatN L)
 new : ∀ k, rv.ownBlock = some k → B ≤ k
 each : ∀ n ∈ L, OwnN B w n
 apart : L.Pairwise fun a b => ∀ k, a.v2.ownBlock = some k → b.v2.ownBlock ≠ some k
theorem RowN.nil {B : Nat} {w : World} : RowN B w (.slice none 0 0) [] := ⟨World.ownsRow_nil _ _ _ _, fun k hk => by simp [Value.ownBlock] at hk, fun _ h => by (cases h), List.Pairwise.nil⟩
theorem RowN.only {B : Nat} {w w' : World} {rv : Value} {L : List LN} {F : Nat → Prop} (h : RowN B w rv L) (ho : Only F w w') (h0 : ∀ k, rv.ownBlock = some k → ¬ F k) (h1 : ∀ n ∈ L, ∀ k, n.v1.ownBlock = some k → ¬ F k) (h2 : ∀ n ∈ L, ∀ k, n.v2.ownBlock = some k → ¬ F k) : RowN B w' rv L :=
 ⟨own_only h.own ho h0, h.new, fun n hn => (h.each n hn).only ho (h1 n hn) (h2 n hn), h.apart⟩
theorem RowN.only0 {B : Nat} {w w' : World} {rv : Value} {L : List LN} (h : RowN B w rv L) (ho : Only (fun _ => False) w w') : RowN B w' rv L := h.only ho (fun _ _ f => f) (fun _ _ _ _ f => f) (fun _ _ _ _ f => f)
theorem RowN.read {B : Nat} {w : World} {rv : Value} {L : List LN} (h : RowN B w rv L) : RowT 4 NodC w.heap.size w rv (L.map LN.x) := by
 refine RowT.of_own (cs := flatN L) (e := 80) (by rw [List.length_map]; exact h.own) fun i hi => ?_
 rw [List.length_map] at hi
 exact ⟨L[i].cells, rfl, fun j u hu => flatN_at L i _ (List.getElem?_eq_getElem hi) j u hu, by rw [List.getElem_map]; exact (h.each _ (List.getElem_mem hi)).read⟩
theorem RowN.free {B : Nat} {w : World} {rv : Value} {L : List LN} (h : RowN B w rv L) {P : Nat} {c : Array Value} {t : TypeId} {f : Nat × Nat} (hb : w.heap[P]? = some (.cells c t f)) (h1 : 80 ≠ t) (h2 : 60 ≠ t) (h3 : 9 ≠ t) :
  (∀ k, rv.ownBlock = some k → k ≠ P) ∧ (∀ n ∈ L, ∀ k, n.v1.ownBlock = some k → k ≠ P) ∧ (∀ n ∈ L, ∀ k, n.v2.ownBlock = some k → k ≠ P) :=
 ⟨fun k hk e => own_blk h1 h.own hb (e ▸ hk), fun n hn k hk e => own_blk h2 (h.each n hn).sets hb (e ▸ hk), fun n hn k hk e => own_blk h3 (h.each n hn).needs hb (e ▸ hk)⟩
theorem RowN.snoc {B : Nat} {w w' : World} {rv rv' : Value} {L : List LN} {n : LN} (h : RowN B w rv L) (hn : OwnN B w n) (hap : ∀ m ∈ L, ∀ k, m.v2.ownBlock = some k → n.v2.ownBlock ≠ some k)
  (r1 : w'.ownsRow 0 80 4 rv' (L.length + 1) (flatN L ++ n.cells)) (o : Only (fun k => rv.ownBlock = some k) w w') (r3 : ∀ k, rv'.ownBlock = some k → rv.ownBlock = some k ∨ w.heap.size ≤ k) (hB : B ≤ w.heap.size) : RowN B w' rv' (L ++ [n]) := by
 have f1 : ∀ m, OwnN B w m → OwnN B w' m := fun m hm => hm.only o (fun k hk e => own_ty (by decide) hm.sets h.own hk e) (fun k hk e => own_ty (by decide) hm.needs h.own hk e)
 refine ⟨by rw [List.length_append, List.length_singleton, flatN_snoc]; exact r1, fun k hk => ?_, fun m hm => ?_, ?_⟩
 ·rcases r3 k hk with g | g
  ·exact h.new k g
  ·omega
 ·rcases List.mem_append.1 hm with g | g
  ·exact f1 m (h.each m g)
  ·rw [List.mem_singleton.1 g]; exact f1 n hn
 ·rw [List.pairwise_append]
  exact ⟨h.apart, List.pairwise_singleton _ _, fun a ha b hb => by rw [List.mem_singleton.1 hb]; exact hap a ha⟩
end Go.Proofs.YtmlfchjompfmaaaDoor

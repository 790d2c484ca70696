/- ChP1 ChP2, in one text. -/
import Derived.Test.YtbapkcnfacklaaaGreatChA
import Derived.Test.YtbapkcnfacklaaaGreatRef12S
import Derived.Test.YtbapkcnfacklaaaGreatFormR
import Derived.Test.YtbapkcnfacklaaaGreatGd1
import Derived.Test.YtbapkcnfacklaaaGreatRfA
set_option linter.unusedVariables false
namespace Go.Proofs.YtbapkcnfacklaaaGreat
open Go.RowKit
namespace Cho
open Cnf
def NumOf (l : List At) (a : At) (z : Int) : Prop := 0 < z ∧ z.natAbs ≤ l.length ∧ l.getD (z.natAbs - 1) default = a
def lit (s : At → Bool) (l : List At) (z : Int) : Bool := decide (0 < z) == s (l.getD (z.natAbs - 1) default)
def Tru (s : At → Bool) (l : List At) (z : Int) : Prop := z ≠ 0 ∧ z.natAbs ≤ l.length ∧ lit s l z = true
theorem getD_app {l m : List At} {i : Nat} (h : i < l.length) : (l ++ m).getD i default = l.getD i default := by
 rw [List.getD_eq_getElem?_getD, List.getD_eq_getElem?_getD, List.getElem?_append_left h]
theorem NumOf.mono {l m : List At} {a : At} {z : Int} (h : NumOf l a z) : NumOf (l ++ m) a z := by
 obtain ⟨h1, h2, h3⟩ := h
 exact ⟨h1, by rw [List.length_append]; omega, by rw [getD_app (by omega)]; exact h3⟩
theorem lit_app {s : At → Bool} {l m : List At} {z : Int} (h0 : z ≠ 0) (h : z.natAbs ≤ l.length) : lit s (l ++ m) z = lit s l z := by
 unfold lit; rw [getD_app (by omega)]
theorem Tru.mono {s : At → Bool} {l m : List At} {z : Int} (h : Tru s l z) : Tru s (l ++ m) z :=
 ⟨h.1, by rw [List.length_append]; have := h.2.1; omega, by rw [lit_app h.1 h.2.1]; exact h.2.2⟩
theorem NumOf.lit {s : At → Bool} {l : List At} {a : At} {z : Int} (h : NumOf l a z) : lit s l z = s a := by
 unfold Cho.lit; rw [h.2.2, decide_eq_true h.1]; cases s a <;> rfl
theorem NumOf.nlit {s : At → Bool} {l : List At} {a : At} {z : Int} (h : NumOf l a z) : Cho.lit s l (-z) = !s a := by
 have := h.1
 unfold Cho.lit; rw [Int.natAbs_neg, h.2.2, decide_eq_false (by omega)]; cases s a <;> rfl
theorem NumOf.tru {s : At → Bool} {l : List At} {a : At} {z : Int} (h : NumOf l a z) (hs : s a = true) : Tru s l z := ⟨by have := h.1; omega, h.2.1, by rw [h.lit, hs]⟩
theorem NumOf.ntru {s : At → Bool} {l : List At} {a : At} {z : Int} (h : NumOf l a z) (hs : s a = false) : Tru s l (-z) := ⟨by have := h.1; omega, by rw [Int.natAbs_neg]; exact h.2.1, by rw [h.nlit, hs]; rfl⟩
theorem NumOf.inj {l : List At} {a b : At} {z : Int} (h : NumOf l a z) (h' : NumOf l b z) : a = b := h.2.2.symm.trans h'.2.2
theorem NumOf.uniq {l : List At} (hn : l.Nodup) {n : Nat} (hlt : n < l.length) {z : Int} (h : NumOf l (l.getD n default) z) : z.natAbs - 1 = n := by
 obtain ⟨h1, h2, h3⟩ := h
 have e1 : l[z.natAbs - 1]'(by omega) = l[n] := by
  rw [List.getD_eq_getElem?_getD, List.getD_eq_getElem?_getD, List.getElem?_eq_getElem (by omega), List.getElem?_eq_getElem hlt] at h3
  exact h3
 exact (List.getElem_inj hn).1 e1
def XOne (s : At → Bool) (a : At) (ats : List At) : Prop :=
 (s a = false → ∀ i, i < ats.length → s (ats.getD i default) = false) ∧
 (s a = true → ∃ i, i < ats.length ∧ ∀ j, j < ats.length → (s (ats.getD j default) = true ↔ j = i))
structure Gd (s : At → Bool) (S : TB) : Prop where
 ok : S.1.Ok
 nd : S.1.l.Nodup
 bad : S.2.bad = false
 cl : ∀ f ∈ S.2.cls, ∃ z ∈ f, Tru s S.1.l z
theorem num_grow (T : Tab) (a : At) : ∃ m, (T.num a).1.l = T.l ++ m ∧ (∀ b ∈ m, b = a) := by
 unfold Tab.num
 split
 ·exact ⟨[], by simp, by simp⟩
 ·split
  ·exact ⟨[], by simp, by simp⟩
  ·exact ⟨[a], rfl, by simp⟩
theorem nums_grow : ∀ (ats : List At) (T : Tab), ∃ m, (T.nums ats).1.l = T.l ++ m ∧ (∀ b ∈ m, b ∈ ats)
 | [], T => ⟨[], by simp [Tab.nums], by simp⟩
 | a :: r, T => by
  obtain ⟨m1, h1, k1⟩ := num_grow T a
  obtain ⟨m2, h2, k2⟩ := nums_grow r (T.num a).1
  refine ⟨m1 ++ m2, ?_, fun b hb => ?_⟩
  ·rw [Tab.nums, h2, h1, List.append_assoc]
  ·rcases List.mem_append.1 hb with hb | hb
   ·rw [k1 b hb]; exact List.mem_cons_self
   ·exact List.mem_cons_of_mem _ (k2 b hb)
theorem num_is {T : Tab} (h : T.Ok) (hn : T.l.Nodup) (a : At) : (T.num a).1.l.Nodup ∧ ((T.num a).2 = 0 ∨ NumOf (T.num a).1.l a (T.num a).2) := by
 unfold Tab.num
 split
 ·rename_i hm
  refine ⟨hn, .inr ?_⟩
  have hlt := List.idxOf_lt_length_of_mem hm
  simp only [numOf, if_pos hm]
  refine ⟨by omega, by omega, ?_⟩
  have e : ((((List.idxOf a T.l : Nat) : Int) + 1).natAbs - 1) = List.idxOf a T.l := by omega
  have e' : (((List.idxOf a T.l + 1 : Nat) : Int).natAbs - 1) = List.idxOf a T.l := by omega
  rw [List.getD_eq_getElem?_getD]
  first
   | rw [e, List.getElem?_eq_getElem hlt]
   | rw [e', List.getElem?_eq_getElem hlt]
  simp
 ·rename_i hm
  split
  ·exact ⟨hn, .inl rfl⟩
  ·refine ⟨?_, .inr ⟨by show (0 : Int) < (T.l.length : Int) + 1; omega, ?_, ?_⟩⟩
   ·show (T.l ++ [a]).Nodup
    rw [List.nodup_append]
    refine ⟨hn, by simp, fun x hx y hy => ?_⟩
    rw [List.mem_singleton] at hy
    rintro rfl
    exact hm (hy ▸ hx)
   ·show (((T.l.length : Int) + 1).natAbs) ≤ (T.l ++ [a]).length
    simp; omega
   ·show (T.l ++ [a]).getD (((T.l.length : Int) + 1).natAbs - 1) default = a
    have e : (((T.l.length : Int) + 1).natAbs - 1) = T.l.length := by omega
    rw [e, List.getD_eq_getElem?_getD]
    simp
def NumsOf (l : List At) (ats : List At) (ns : List Int) : Prop := ns.length = ats.length ∧ ∀ i, i < ats.length → ns.getD i 0 = 0 ∨ NumOf l (ats.getD i default) (ns.getD i 0)
theorem nums_is : ∀ (ats : List At) {T : Tab}, T.Ok → T.l.Nodup → (T.nums ats).1.l.Nodup ∧ NumsOf (T.nums ats).1.l ats (T.nums ats).2
 | [], T, h, hn => ⟨hn, rfl, fun i hi => by simp at hi⟩
 | a :: r, T, h, hn => by
  obtain ⟨n1, k1⟩ := num_is h hn a
  obtain ⟨n2, k2, k3⟩ := nums_is r (Tab.num_ok h a).1 n1
  obtain ⟨m, hm, -⟩ := nums_grow r (T.num a).1
  refine ⟨n2, by rw [Tab.nums]; simp [k2], fun i hi => ?_⟩
  rw [Tab.nums]
  cases i with
  | zero =>
   simp only [List.getD_cons_zero]
   rw [hm]
   exact k1.imp id NumOf.mono
  | succ i =>
   simp only [List.getD_cons_succ]
   exact k3 i (by simpa using hi)
theorem Gd.num {s : At → Bool} {T : Tab} {B : Bld} (h : Gd s (T, B)) (a : At) : Gd s ((T.num a).1, B) ∧ ((T.num a).2 = 0 ∨ NumOf (T.num a).1.l a (T.num a).2) := by
 obtain ⟨n1, k1⟩ := num_is h.ok h.nd a
 obtain ⟨m, hm, -⟩ := num_grow T a
 refine ⟨⟨(Tab.num_ok h.ok a).1, n1, h.bad, fun f hf => ?_⟩, k1⟩
 obtain ⟨z, hz, ht⟩ := h.cl f hf
 exact ⟨z, hz, by show Tru s (T.num a).1.l z; rw [hm]; exact ht.mono⟩
theorem any_wr0 {c : List Int} (h : ∀ x ∈ c, x ≠ 0 ∧ x.natAbs ≤ 65536) : c.any wr = false := by
 rw [List.any_eq_false]
 intro x hx
 obtain ⟨h1, h2⟩ := h x hx
 unfold wr minI
 simp only [Bool.or_eq_true, beq_iff_eq]
 omega
theorem Gd.adds {s : At → Bool} : ∀ (cs : List (List Int)) {T : Tab} {B : Bld}, Gd s (T, B) → (∀ c ∈ cs, (∀ x ∈ c, x ≠ 0 ∧ x.natAbs ≤ 65536) ∧ ∃ z ∈ c, Tru s T.l z) → Gd s (T, B.adds cs)
 | [], _, _, h, _ => h
 | c :: cs, T, B, h, hc => by
  refine Gd.adds cs (T := T) (B := B.add c) ?_ (fun d hd => hc d (List.mem_cons_of_mem _ hd))
  obtain ⟨h1, z, hz, ht⟩ := hc c List.mem_cons_self
  unfold Bld.add
  rw [any_wr0 h1]
  simp only [Bool.false_eq_true, if_false]
  split
  ·exact h
  ·rename_i f hf
   split
   ·exact ⟨h.ok, h.nd, h.bad, h.cl⟩
   ·refine ⟨h.ok, h.nd, h.bad, fun g hg => ?_⟩
    rcases List.mem_append.1 hg with hg | hg
    ·exact h.cl g hg
    ·rw [List.mem_singleton.1 hg]
     exact ⟨z, (Rup.form_mem hf z).2 hz, ht⟩
theorem mem_most {row : List Int} {c : List Int} (h : c ∈ mostC row) : ∃ i j, i < j ∧ j < row.length ∧ c = [-(row.getD i 0), -(row.getD j 0)] := by
 unfold mostC mostTo pairsAt at h
 obtain ⟨i, hi, h⟩ := List.mem_flatMap.1 h
 rw [List.mem_range] at hi
 obtain ⟨y, hy, rfl⟩ := List.mem_map.1 h
 obtain ⟨k, hk, rfl⟩ := List.mem_iff_getElem.1 hy
 rw [List.length_drop] at hk
 refine ⟨i, i + 1 + k, by omega, by omega, ?_⟩
 rw [List.getElem_drop]
 have : row.getD (i + 1 + k) 0 = row[i + 1 + k]'(by omega) := by rw [List.getD_eq_getElem?_getD, List.getElem?_eq_getElem (by omega)]; rfl
 rw [this]
theorem most_mem {row : List Int} {i j : Nat} (hij : i < j) (hj : j < row.length) : [-(row.getD i 0), -(row.getD j 0)] ∈ mostC row := by
 unfold mostC mostTo pairsAt
 refine List.mem_flatMap.2 ⟨i, List.mem_range.2 (by omega), List.mem_map.2 ⟨row.getD j 0, ?_, rfl⟩⟩
 rw [List.mem_iff_getElem]
 refine ⟨j - (i + 1), by rw [List.length_drop]; omega, ?_⟩
 rw [List.getElem_drop, List.getD_eq_getElem?_getD, List.getElem?_eq_getElem hj]
 simp only [Option.getD_some]
 congr 1
 omega
structure Full (l : List At) (a : At) (ats : List At) (node : Int) (ns : List Int) : Prop where
 node : NumOf l a node
 len : ns.length = ats.length
 get : ∀ i, i < ats.length → NumOf l (ats.getD i default) (ns.getD i 0)
theorem Full.of {l : List At} {a : At} {ats : List At} {node : Int} {ns : List Int} (h1 : node = 0 ∨ NumOf l a node) (h2 : NumsOf l ats ns) (h : ¬ (node = 0 ∨ ns.contains 0 = true)) : Full l a ats node ns := by
 rw [not_or] at h
 refine ⟨h1.resolve_left h.1, h2.1, fun i hi => (h2.2 i hi).resolve_left fun e => h.2 ?_⟩
 rw [List.contains_iff_mem]
 have hl : i < ns.length := by rw [h2.1]; exact hi
 rw [List.getD_eq_getElem?_getD, List.getElem?_eq_getElem hl] at e
 rw [← e]
 exact List.getElem_mem hl
theorem Full.mem {l : List At} {a : At} {ats : List At} {node : Int} {ns : List Int} (F : Full l a ats node ns) {x : Int} (hx : x ∈ ns) : ∃ i, i < ats.length ∧ x = ns.getD i 0 := by
 obtain ⟨i, hi, rfl⟩ := List.mem_iff_getElem.1 hx
 exact ⟨i, by rw [← F.len]; exact hi, by rw [List.getD_eq_getElem?_getD, List.getElem?_eq_getElem hi]; rfl⟩
theorem Full.at_mem {l : List At} {a : At} {ats : List At} {node : Int} {ns : List Int} (F : Full l a ats node ns) {i : Nat} (hi : i < ats.length) : ns.getD i 0 ∈ ns := by
 have hl : i < ns.length := by rw [F.len]; exact hi
 rw [List.getD_eq_getElem?_getD, List.getElem?_eq_getElem hl]
 exact List.getElem_mem hl
theorem NumOf.rng {l : List At} (hl : l.length ≤ 65536) {a : At} {z : Int} (h : NumOf l a z) : (z ≠ 0 ∧ z.natAbs ≤ 65536) ∧ (-z ≠ 0 ∧ (-z).natAbs ≤ 65536) := by
 obtain ⟨h1, h2, -⟩ := h
 omega
theorem Full.rng {l : List At} (hl : l.length ≤ 65536) {a : At} {ats : List At} {node : Int} {ns : List Int} (F : Full l a ats node ns) : ∀ c ∈ oneC node ns, ∀ x ∈ c, x ≠ 0 ∧ x.natAbs ≤ 65536 := by
 intro c hc x hx
 unfold oneC at hc
 rcases List.mem_cons.1 hc with rfl | hc
 ·rcases List.mem_cons.1 hx with rfl | hx
  ·exact (F.node.rng hl).2
  ·obtain ⟨i, hi, rfl⟩ := F.mem hx
   exact ((F.get i hi).rng hl).1
 ·rcases List.mem_append.1 hc with hc | hc
  ·obtain ⟨i, j, hij, hj, rfl⟩ := mem_most hc
   rw [F.len] at hj
   simp only [List.mem_cons, List.not_mem_nil, or_false] at hx
   rcases hx with rfl | rfl
   ·exact ((F.get i (by omega)).rng hl).2
   ·exact ((F.get j hj).rng hl).2
  ·obtain ⟨n, hn, rfl⟩ := List.mem_map.1 hc
   obtain ⟨i, hi, rfl⟩ := F.mem hn
   simp only [List.mem_cons, List.not_mem_nil, or_false] at hx
   rcases hx with rfl | rfl
   ·exact ((F.get i hi).rng hl).2
   ·exact (F.node.rng hl).1
theorem Full.holds {s : At → Bool} {l : List At} {a : At} {ats : List At} {node : Int} {ns : List Int} (F : Full l a ats node ns) (X : XOne s a ats) : ∀ c ∈ oneC node ns, ∃ z ∈ c, Tru s l z := by
 intro c hc
 unfold oneC at hc
 rcases List.mem_cons.1 hc with rfl | hc
 ·cases ha : s a
  ·exact ⟨-node, List.mem_cons_self, F.node.ntru ha⟩
  ·obtain ⟨i, hi, h⟩ := X.2 ha
   exact ⟨ns.getD i 0, List.mem_cons_of_mem _ (F.at_mem hi), (F.get i hi).tru ((h i hi).2 rfl)⟩
 ·rcases List.mem_append.1 hc with hc | hc
  ·obtain ⟨i, j, hij, hj, rfl⟩ := mem_most hc
   rw [F.len] at hj
   cases hi : s (ats.getD i default)
   ·exact ⟨_, List.mem_cons_self, (F.get i (by omega)).ntru hi⟩
   ·cases hjj : s (ats.getD j default)
    ·exact ⟨_, List.mem_cons_of_mem _ List.mem_cons_self, (F.get j hj).ntru hjj⟩
    ·cases ha : s a
     ·rw [X.1 ha i (by omega)] at hi; cases hi
     ·obtain ⟨k, hk, h⟩ := X.2 ha
      have e1 := (h i (by omega)).1 hi
      have e2 := (h j hj).1 hjj
      omega
  ·obtain ⟨n, hn, rfl⟩ := List.mem_map.1 hc
   obtain ⟨i, hi, rfl⟩ := F.mem hn
   cases ha : s a
   ·exact ⟨_, List.mem_cons_self, (F.get i hi).ntru (X.1 ha i hi)⟩
   ·exact ⟨node, by simp, F.node.tru ha⟩
theorem Gd.row {s : At → Bool} {S : TB} (h : Gd s S) {a : At} {ats : List At} {node : Int} (hn : node = 0 ∨ NumOf S.1.l a node) (X : XOne s a ats) : Gd s (S.row node ats) := by
 obtain ⟨T, B⟩ := S
 obtain ⟨n1, k1⟩ := nums_is ats h.ok h.nd
 obtain ⟨m, hm, -⟩ := nums_grow ats T
 have hok := (Tab.nums_ok ats h.ok).1
 have h' : Gd s ((T.nums ats).1, B) := ⟨hok, n1, h.bad, fun f hf => by
  obtain ⟨z, hz, ht⟩ := h.cl f hf
  exact ⟨z, hz, by show Tru s (T.nums ats).1.l z; rw [hm]; exact ht.mono⟩⟩
 show Gd s ((T.nums ats).1, B.one node (T.nums ats).2)
 unfold Bld.one
 split
 ·exact h'
 ·rename_i hz
  have hn' : node = 0 ∨ NumOf (T.nums ats).1.l a node := by rw [hm]; exact hn.imp id NumOf.mono
  have F := Full.of hn' k1 hz
  exact h'.adds _ fun c hc => ⟨F.rng (Nat.le_trans hok.len hok.lim) c hc, F.holds X c hc⟩
theorem row_grow (S : TB) (node : Int) (ats : List At) : ∃ m, (S.row node ats).1.l = S.1.l ++ m ∧ ∀ b ∈ m, b ∈ ats := nums_grow ats S.1
structure PackX (s : At → Bool) (p : Nat) (pk : PackD) : Prop where
 rels : XOne s (nodeA p) (relAs p pk.rels.length)
 vars : ∀ j, j < pk.vars.length → XOne s (nodeA p) (valAs p j (pk.vars.getD j default).values.length)
theorem Gd.vars {s : At → Bool} {S : TB} (h : Gd s S) {p : Nat} {node : Int} (hn : node = 0 ∨ NumOf S.1.l (nodeA p) node) {vs : List VarD} : ∀ j, (∀ k, k < j → XOne s (nodeA p) (valAs p k (vs.getD k default).values.length)) → Gd s (S.vars node p vs j) ∧ (node = 0 ∨ NumOf (S.vars node p vs j).1.l (nodeA p) node)
 | 0, _ => ⟨h, hn⟩
 | j + 1, hx => by
  obtain ⟨h1, h2⟩ := Gd.vars h hn (vs := vs) j (fun k hk => hx k (by omega))
  obtain ⟨m, hm, -⟩ := row_grow (S.vars node p vs j) node (valAs p j (vs.getD j default).values.length)
  refine ⟨h1.row h2 (hx j (by omega)), ?_⟩
  rw [TB.vars, hm]
  exact h2.imp id NumOf.mono
theorem Gd.pack {s : At → Bool} {S : TB} (h : Gd s S) {p : Nat} {pk : PackD} (X : PackX s p pk) : Gd s (S.pack p pk) := by
 obtain ⟨T, B⟩ := S
 obtain ⟨h1, h2⟩ := h.num (nodeA p)
 obtain ⟨m, hm, -⟩ := row_grow ((T.num (nodeA p)).1, B) (T.num (nodeA p)).2 (relAs p pk.rels.length)
 have h3 := h1.row h2 X.rels
 have h4 : (T.num (nodeA p)).2 = 0 ∨ NumOf (TB.row ((T.num (nodeA p)).1, B) (T.num (nodeA p)).2 (relAs p pk.rels.length)).1.l (nodeA p) (T.num (nodeA p)).2 := by
  rw [hm]; exact h2.imp id NumOf.mono
 exact (h3.vars h4 _ X.vars).1
theorem Gd.choices {s : At → Bool} {x : RecD} : ∀ (l : List Nat) {S : TB}, Gd s S → (∀ p ∈ l, PackX s p (x.pack p)) → Gd s (S.choices x l)
 | [], _, h, _ => h
 | p :: l, S, h, X => Gd.choices l (S := S.pack p (x.pack p)) (h.pack (X p List.mem_cons_self)) (fun q hq => X q (List.mem_cons_of_mem _ hq))
theorem soB_of {s : At → Bool} {l : List At} (hl : l.length ≤ 65536) {z : Int} (h0 : z ≠ 0) (h : z.natAbs ≤ l.length) {m : List Bool} (hm : ∀ i, i < l.length → m.getD i false = s (l.getD i default)) : soB z m = lit s l z := by
 have hw : wr z = false := by
  unfold wr minI
  rw [Bool.or_eq_false_iff, beq_eq_false_iff_ne, beq_eq_false_iff_ne]
  omega
 unfold soB lit
 rw [hw, hm _ (by omega)]
 simp only [Bool.false_eq_true, if_false]
 split
 ·rw [decide_eq_false (by omega)]; cases s (l.getD (z.natAbs - 1) default) <;> rfl
 ·rw [decide_eq_true (by omega)]; cases s (l.getD (z.natAbs - 1) default) <;> rfl
theorem map_getD {s : At → Bool} {l : List At} {i : Nat} (hi : i < l.length) : (l.map s).getD i false = s (l.getD i default) := by
 rw [List.getD_eq_getElem?_getD, List.getD_eq_getElem?_getD, List.getElem?_map, List.getElem?_eq_getElem hi]; rfl
theorem Gd.holds {s : At → Bool} {S : TB} (h : Gd s S) : holdsB S.2.cls (S.1.l.map s) = true := by
 unfold holdsB
 rw [List.all_eq_true]
 intro f hf
 obtain ⟨z, hz, ht⟩ := h.cl f hf
 rw [List.any_eq_true]
 exact ⟨z, hz, by rw [soB_of (Nat.le_trans h.ok.len h.ok.lim) ht.1 ht.2.1 fun i hi => map_getD hi]; exact ht.2.2⟩
def Crit (s : At → Bool) (l : List At) (cls : List (List Int)) (n : Nat) : Prop := ∃ f ∈ cls, ∀ z ∈ f, z ≠ 0 ∧ z.natAbs ≤ l.length ∧ lit s l z = decide (z.natAbs - 1 = n)
theorem Crit.mono {s : At → Bool} {l m : List At} {cls ds : List (List Int)} {n : Nat} (h : Crit s l cls n) : Crit s (l ++ m) (cls ++ ds) n := by
 obtain ⟨f, hf, h⟩ := h
 refine ⟨f, List.mem_append_left _ hf, fun z hz => ?_⟩
 obtain ⟨h1, h2, h3⟩ := h z hz
 exact ⟨h1, by rw [List.length_append]; omega, by rw [lit_app h1 h2]; exact h3⟩
theorem Crit.breaks {s : At → Bool} {l : List At} (hl : l.length ≤ 65536) {cls : List (List Int)} {n : Nat} (h : Crit s l cls n) (hn : n < l.length) : holdsB cls ((l.map s).set n (!(l.map s).getD n false)) = false := by
 obtain ⟨f, hf, h⟩ := h
 unfold holdsB
 rw [List.all_eq_false]
 refine ⟨f, hf, ?_⟩
 rw [Bool.not_eq_true, List.any_eq_false]
 intro z hz
 obtain ⟨h1, h2, h3⟩ := h z hz
 rw [Bool.not_eq_true]
 have hw : wr z = false := by
  unfold wr minI
  rw [Bool.or_eq_false_iff, beq_eq_false_iff_ne, beq_eq_false_iff_ne]
  omega
 have hz1 : z.natAbs - 1 < l.length := by omega
 unfold soB
 rw [hw]
 simp only [Bool.false_eq_true, if_false]
 by_cases e : z.natAbs - 1 = n
 ·rw [decide_eq_true e] at h3
  have g : ((l.map s).set n (!(l.map s).getD n false)).getD (z.natAbs - 1) false = !s (l.getD (z.natAbs - 1) default) := by
   rw [e, List.getD_eq_getElem?_getD, List.getElem?_set_self (by simpa using hn), map_getD hn]; rfl
  rw [g]
  unfold lit at h3
  split
  ·rw [decide_eq_false (by omega)] at h3
   revert h3; cases s (l.getD (z.natAbs - 1) default) <;> simp
  ·rw [decide_eq_true (by omega)] at h3
   revert h3; cases s (l.getD (z.natAbs - 1) default) <;> simp
 ·rw [decide_eq_false e] at h3
  have g : ((l.map s).set n (!(l.map s).getD n false)).getD (z.natAbs - 1) false = s (l.getD (z.natAbs - 1) default) := by
   rw [List.getD_eq_getElem?_getD, List.getElem?_set_ne (by omega), ← List.getD_eq_getElem?_getD, map_getD hz1]
  rw [g]
  unfold lit at h3
  split
  ·rw [decide_eq_false (by omega)] at h3
   revert h3; cases s (l.getD (z.natAbs - 1) default) <;> simp
  ·rw [decide_eq_true (by omega)] at h3
   revert h3; cases s (l.getD (z.natAbs - 1) default) <;> simp
theorem lit_of0 {x : Int} (h0 : x ≠ 0) (h1 : x.natAbs ≤ 65536) : Cnf.Lit x := by
 refine ⟨⟨by omega, by omega⟩, ?_⟩
 unfold wr minI
 rw [Bool.or_eq_false_iff, beq_eq_false_iff_ne, beq_eq_false_iff_ne]
 omega
theorem form_some {c : List Int} (hl : ∀ x ∈ c, x ≠ 0 ∧ x.natAbs ≤ 65536) (hne : ∀ x ∈ c, -x ∉ c) : ∃ f, form c = some f ∧ ∀ x, x ∈ f ↔ x ∈ c := by
 have hlit : ∀ x ∈ c, Cnf.Lit x := fun x hx => lit_of0 (hl x hx).1 (hl x hx).2
 have hl2 : ∀ x ∈ formL c, Cnf.Lit x := fun x hx => hlit x ((mem_formL c x).1 hx)
 have hs := formL_strict c
 have habs : AbsStrict (formL c) := by
  unfold Strict at hs
  unfold AbsStrict
  refine hs.imp_of_mem fun {x y} hx hy hxy => ?_
  rw [lt_iff, (hl2 x hx).abs, (hl2 y hy).abs] at hxy
  rcases hxy with h1 | ⟨h1, h2⟩
  ·omega
  ·exfalso
   have : y = -x := by omega
   rw [this] at hy
   exact hne x ((mem_formL c x).1 hx) ((mem_formL c (-x)).1 hy)
 refine ⟨formL c, ?_, mem_formL c⟩
 unfold form
 rw [any_wr hlit]
 simp only [Bool.false_eq_true, if_false]
 rw [clash_false_of habs hl2]
 rfl
theorem adds_cls : ∀ (l : List (List Int)) (B : Bld), (∀ c ∈ l, ∀ x ∈ c, x ≠ 0 ∧ x.natAbs ≤ 65536) → B.cls.length + l.length ≤ 262144 → (B.adds l).cls = B.cls ++ l.filterMap form
 | [], B, _, _ => by simp [Bld.adds]
 | c :: l, B, hl, hb => by
  simp only [List.length_cons] at hb
  have e : B.adds (c :: l) = (B.add c).adds l := rfl
  rw [e]
  have hadd : (B.add c).cls = B.cls ++ [c].filterMap form := by
   unfold Bld.add
   rw [any_wr0 (hl c List.mem_cons_self)]
   simp only [Bool.false_eq_true, if_false]
   cases hf : form c with
   | none => simp [hf]
   | some f =>
    simp only
    rw [if_neg (by omega)]
    simp [hf]
  have hlen : (B.add c).cls.length ≤ B.cls.length + 1 := by
   rw [hadd, List.length_append]
   have := List.length_filterMap_le form [c]
   simp only [List.length_singleton] at this
   omega
  rw [adds_cls l (B.add c) (fun d hd => hl d (List.mem_cons_of_mem _ hd)) (by omega), hadd, List.append_assoc, ← List.filterMap_append]
  rfl
theorem Full.crit {s : At → Bool} {l : List At} (hl : l.length ≤ 65536) (hnd : l.Nodup) {a : At} {ats : List At} {node : Int} {ns : List Int} (F : Full l a ats node ns) (X : XOne s a ats) (ha : a ∉ ats) (hat : ats.Nodup) {n : Nat} (hn : n < l.length) (hm : l.getD n default = a ∨ l.getD n default ∈ ats) :
  ∃ c ∈ oneC node ns, (∀ x ∈ c, -x ∉ c) ∧ ∀ z ∈ c, z ≠ 0 ∧ z.natAbs ≤ l.length ∧ lit s l z = decide (z.natAbs - 1 = n) := by
 have hp : 0 < node := F.node.1
 have hpi : ∀ i, i < ats.length → 0 < ns.getD i 0 := fun i hi => (F.get i hi).1
 -- whose place is it
 have key : ∀ b z, NumOf l b z → (z.natAbs - 1 = n ↔ b = l.getD n default) := fun b z hz => by
  constructor
  ·rintro rfl; exact hz.2.2.symm
  ·rintro rfl; exact hz.uniq hnd hn
 have hinj : ∀ i j, i < ats.length → j < ats.length → ats.getD i default = ats.getD j default → i = j := fun i j hi hj e => by
  rw [List.getD_eq_getElem?_getD, List.getD_eq_getElem?_getD, List.getElem?_eq_getElem hi, List.getElem?_eq_getElem hj] at e
  exact (List.getElem_inj hat).1 e
 have hmem : ∀ i, i < ats.length → ats.getD i default ∈ ats := fun i hi => by
  rw [List.getD_eq_getElem?_getD, List.getElem?_eq_getElem hi]; exact List.getElem_mem hi
 have hna : ∀ i, i < ats.length → ats.getD i default ≠ a := fun i hi e => ha (e ▸ hmem i hi)
 have hne : ∀ i, i < ats.length → ns.getD i 0 ≠ node := fun i hi e => by
  have := F.get i hi
  rw [e] at this
  exact hna i hi (this.inj F.node)
 have l1 : -node :: ns ∈ oneC node ns := List.mem_cons_self
 have l2 : ∀ i, i < ats.length → [-(ns.getD i 0), node] ∈ oneC node ns := fun i hi =>
  List.mem_cons_of_mem _ (List.mem_append_right _ (List.mem_map.2 ⟨_, F.at_mem hi, rfl⟩))
 have l3 : ∀ i j, i < j → j < ats.length → [-(ns.getD i 0), -(ns.getD j 0)] ∈ oneC node ns := fun i j hij hj =>
  List.mem_cons_of_mem _ (List.mem_append_left _ (most_mem hij (by rw [F.len]; exact hj)))
 have n1 : ∀ x ∈ -node :: ns, -x ∉ -node :: ns := by
  intro x hx h
  rcases List.mem_cons.1 hx with rfl | hx
  ·rcases List.mem_cons.1 h with h | h
   ·omega
   ·obtain ⟨i, hi, e⟩ := F.mem h
    exact hne i hi (by omega)
  ·obtain ⟨i, hi, rfl⟩ := F.mem hx
   have := hpi i hi
   rcases List.mem_cons.1 h with h | h
   ·exact hne i hi (by omega)
   ·obtain ⟨j, hj, e⟩ := F.mem h
    have := hpi j hj
    omega
 have n2 : ∀ i, i < ats.length → ∀ x ∈ [-(ns.getD i 0), node], -x ∉ [-(ns.getD i 0), node] := by
  intro i hi x hx h
  have := hpi i hi
  have := hne i hi
  simp only [List.mem_cons, List.not_mem_nil, or_false] at hx h
  omega
 have n3 : ∀ i j, i < ats.length → j < ats.length → ∀ x ∈ [-(ns.getD i 0), -(ns.getD j 0)], -x ∉ [-(ns.getD i 0), -(ns.getD j 0)] := by
  intro i j hi hj x hx h
  have := hpi i hi
  have := hpi j hj
  simp only [List.mem_cons, List.not_mem_nil, or_false] at hx h
  omega
 have pos : ∀ {b z}, NumOf l b z → z ≠ 0 ∧ z.natAbs ≤ l.length ∧ lit s l z = s b := fun h => ⟨by have := h.1; omega, h.2.1, h.lit⟩
 have neg : ∀ {b z}, NumOf l b z → -z ≠ 0 ∧ (-z).natAbs ≤ l.length ∧ lit s l (-z) = !s b ∧ (-z).natAbs - 1 = z.natAbs - 1 := fun h => ⟨by have := h.1; omega, by have := h.2.1; omega, h.nlit, by omega⟩
 rcases hm with hm | hm
 ·-- the node itself
  have kn : node.natAbs - 1 = n := (key a node F.node).2 hm.symm
  have ki : ∀ i, i < ats.length → ¬ ((ns.getD i 0).natAbs - 1 = n) := fun i hi e => hna i hi (((key _ _ (F.get i hi)).1 e).trans hm)
  cases hs : s a
  ·refine ⟨_, l1, n1, fun z hz => ?_⟩
   rcases List.mem_cons.1 hz with rfl | hz
   ·obtain ⟨p1, p2, p3, p4⟩ := neg F.node
    exact ⟨p1, p2, by rw [p3, p4, hs, decide_eq_true kn]; rfl⟩
   ·obtain ⟨i, hi, rfl⟩ := F.mem hz
    obtain ⟨p1, p2, p3⟩ := pos (F.get i hi)
    exact ⟨p1, p2, by rw [p3, X.1 hs i hi, decide_eq_false (ki i hi)]⟩
  ·obtain ⟨i, hi, h⟩ := X.2 hs
   refine ⟨_, l2 i hi, n2 i hi, fun z hz => ?_⟩
   simp only [List.mem_cons, List.not_mem_nil, or_false] at hz
   rcases hz with rfl | rfl
   ·obtain ⟨p1, p2, p3, p4⟩ := neg (F.get i hi)
    exact ⟨p1, p2, by rw [p3, p4, (h i hi).2 rfl, decide_eq_false (ki i hi)]; rfl⟩
   ·obtain ⟨p1, p2, p3⟩ := pos F.node
    exact ⟨p1, p2, by rw [p3, hs, decide_eq_true kn]⟩
 ·obtain ⟨i, hi', e⟩ := List.mem_iff_getElem.1 hm
  have hi := hi'
  have ei : ats.getD i default = l.getD n default := by rw [List.getD_eq_getElem?_getD, List.getElem?_eq_getElem hi]; exact e
  have kn : ¬ (node.natAbs - 1 = n) := fun h => hna i hi (ei.trans ((key a node F.node).1 h).symm)
  have ki : (ns.getD i 0).natAbs - 1 = n := (key _ _ (F.get i hi)).2 ei
  have kj : ∀ j, j < ats.length → j ≠ i → ¬ ((ns.getD j 0).natAbs - 1 = n) := fun j hj hji h => hji (hinj j i hj hi (((key _ _ (F.get j hj)).1 h).trans ei.symm))
  cases hs : s a
  ·refine ⟨_, l2 i hi, n2 i hi, fun z hz => ?_⟩
   simp only [List.mem_cons, List.not_mem_nil, or_false] at hz
   rcases hz with rfl | rfl
   ·obtain ⟨p1, p2, p3, p4⟩ := neg (F.get i hi)
    exact ⟨p1, p2, by rw [p3, p4, X.1 hs i hi, decide_eq_true ki]; rfl⟩
   ·obtain ⟨p1, p2, p3⟩ := pos F.node
    exact ⟨p1, p2, by rw [p3, hs, decide_eq_false kn]⟩
  ·obtain ⟨k, hk, h⟩ := X.2 hs
   by_cases ek : k = i
   ·subst ek
    refine ⟨_, l1, n1, fun z hz => ?_⟩
    rcases List.mem_cons.1 hz with rfl | hz
    ·obtain ⟨p1, p2, p3, p4⟩ := neg F.node
     exact ⟨p1, p2, by rw [p3, p4, hs, decide_eq_false kn]; rfl⟩
    ·obtain ⟨j, hj, rfl⟩ := F.mem hz
     obtain ⟨p1, p2, p3⟩ := pos (F.get j hj)
     refine ⟨p1, p2, ?_⟩
     rw [p3]
     by_cases ej : j = k
     ·subst ej; rw [(h j hj).2 rfl, decide_eq_true ki]
     ·rw [decide_eq_false (kj j hj ej)]
      cases hh : s (ats.getD j default)
      ·rfl
      ·exact absurd ((h j hj).1 hh) ej
   ·have hsi : s (ats.getD i default) = false := by
     cases hh : s (ats.getD i default)
     ·rfl
     ·exact absurd ((h i hi).1 hh) (fun e => ek e.symm)
    have hsk : s (ats.getD k default) = true := (h k hk).2 rfl
    have ci : ∀ z, z = -(ns.getD i 0) ∨ z = -(ns.getD k 0) → z ≠ 0 ∧ z.natAbs ≤ l.length ∧ lit s l z = decide (z.natAbs - 1 = n) := by
     rintro z (rfl | rfl)
     ·obtain ⟨p1, p2, p3, p4⟩ := neg (F.get i hi)
      exact ⟨p1, p2, by rw [p3, p4, hsi, decide_eq_true ki]; rfl⟩
     ·obtain ⟨p1, p2, p3, p4⟩ := neg (F.get k hk)
      exact ⟨p1, p2, by rw [p3, p4, hsk, decide_eq_false (kj k hk ek)]; rfl⟩
    rcases Nat.lt_or_gt_of_ne ek with hki | hik
    ·refine ⟨_, l3 k i hki hi, n3 k i hk hi, fun z hz => ci z ?_⟩
     simp only [List.mem_cons, List.not_mem_nil, or_false] at hz
     exact hz.symm
    ·refine ⟨_, l3 i k hik hk, n3 i k hi hk, fun z hz => ci z ?_⟩
     simpa only [List.mem_cons, List.not_mem_nil, or_false] using hz
structure Gx (s : At → Bool) (S : TB) (K N : Nat) : Prop where
 gd : Gd s S
 room : S.1.l.length ≤ K
 few : S.2.cls.length ≤ N
 notFull : S.1.full = false
 lim : S.1.limit = 5000
theorem num_lim (T : Tab) (a : At) : (T.num a).1.limit = T.limit := by
 unfold Tab.num; split
 ·rfl
 ·split <;> rfl
theorem nums_lim : ∀ (ats : List At) (T : Tab), (T.nums ats).1.limit = T.limit
 | [], _ => rfl
 | a :: r, T => by rw [Tab.nums, nums_lim r, num_lim]
theorem num_room {T : Tab} (h : T.l.length < T.limit) (a : At) : (T.num a).1.full = T.full ∧ (T.num a).1.l.length ≤ T.l.length + 1 ∧ (T.num a).2 ≠ 0 := by
 unfold Tab.num
 split
 ·rename_i hm
  refine ⟨rfl, by show T.l.length ≤ _; omega, ?_⟩
  simp only [numOf, if_pos hm]
  omega
 ·rw [if_neg (by omega)]
  refine ⟨rfl, ?_, by show ((T.l.length : Int) + 1) ≠ 0; omega⟩
  show (T.l ++ [a]).length ≤ _
  rw [List.length_append]; simp
theorem nums_room : ∀ (ats : List At) {T : Tab}, T.l.length + ats.length ≤ T.limit → (T.nums ats).1.full = T.full ∧ (T.nums ats).1.l.length ≤ T.l.length + ats.length ∧ ∀ z ∈ (T.nums ats).2, z ≠ 0
 | [], T, _ => ⟨rfl, Nat.le_refl _, fun z hz => by cases hz⟩
 | a :: r, T, h => by
  simp only [List.length_cons] at h
  obtain ⟨h1, h2, h3⟩ := num_room (T := T) (by omega) a
  obtain ⟨k1, k2, k3⟩ := nums_room r (T := (T.num a).1) (by rw [num_lim]; omega)
  refine ⟨by rw [Tab.nums]; exact k1.trans h1, by rw [Tab.nums]; simp only [List.length_cons]; exact Nat.le_trans k2 (by omega), fun z hz => ?_⟩
  rw [Tab.nums] at hz
  rcases List.mem_cons.1 hz with rfl | hz
  ·exact h3
  ·exact k3 z hz
theorem pairs_len (row : List Int) (i : Nat) : (pairsAt row i).length ≤ row.length := by unfold pairsAt; simp
theorem most_len (row : List Int) : (mostC row).length ≤ row.length * row.length := by
 unfold mostC
 have : ∀ i, (mostTo row i).length ≤ i * row.length := by
  intro i
  induction i with
  | zero => simp [mostTo]
  | succ i ih =>
   rw [mostTo_succ, List.length_append, Nat.succ_mul]
   have := pairs_len row i
   omega
 exact this _
def AllCrit (s : At → Bool) (S : TB) (a : At) : Prop := ∀ n, n < S.1.l.length → S.1.l.getD n default ≠ a → Crit s S.1.l S.2.cls n
theorem Gx.row {s : At → Bool} {S : TB} {K N : Nat} (h : Gx s S K N) {a : At} {ats : List At} {node : Int} (hn : NumOf S.1.l a node) (X : XOne s a ats) (ha : a ∉ ats) (hat : ats.Nodup) (hsz : ats.length ≤ 10) (hK : K ≤ 4000) (hN : N ≤ 100000) (hc : AllCrit s S a) :
  Gx s (S.row node ats) (K + 10) (N + 111) ∧ NumOf (S.row node ats).1.l a node ∧ ∀ n, n < (S.row node ats).1.l.length → Crit s (S.row node ats).1.l (S.row node ats).2.cls n := by
 obtain ⟨T, B⟩ := S
 obtain ⟨m, hm, hmm⟩ := nums_grow ats T
 have hg := h.gd.row (.inr hn) X
 have hlim : T.limit = 5000 := h.lim
 have hroom : T.l.length ≤ K := h.room
 obtain ⟨q1, q2, q3⟩ := nums_room ats (T := T) (by omega)
 obtain ⟨n1, k1⟩ := nums_is ats h.gd.ok h.gd.nd
 have hok := (Tab.nums_ok ats h.gd.ok).1
 have hl : (T.nums ats).1.l.length ≤ 65536 := Nat.le_trans hok.len hok.lim
 have hn' : NumOf (T.nums ats).1.l a node := by rw [hm]; exact hn.mono
 have hz : ¬ (node = 0 ∨ (T.nums ats).2.contains 0 = true) := by
  rintro (e | e)
  ·have := hn.1; omega
  ·rw [List.contains_iff_mem] at e
   exact q3 0 e rfl
 have F := Full.of (.inr hn') k1 hz
 have hrng := F.rng hl
 have hone : B.one node (T.nums ats).2 = B.adds (oneC node (T.nums ats).2) := by unfold Bld.one; rw [if_neg hz]
 have hlen : (oneC node (T.nums ats).2).length ≤ 111 := by
  unfold oneC
  simp only [List.length_cons, List.length_append, List.length_map]
  have h1 := most_len (T.nums ats).2
  have h2 : (T.nums ats).2.length ≤ 10 := by rw [k1.1]; exact hsz
  have h3 : (T.nums ats).2.length * (T.nums ats).2.length ≤ 10 * 10 := Nat.mul_le_mul h2 h2
  omega
 have hfew : B.cls.length ≤ N := h.few
 have hcls : (B.one node (T.nums ats).2).cls = B.cls ++ (oneC node (T.nums ats).2).filterMap form := by
  rw [hone]; exact adds_cls _ _ hrng (by omega)
 refine ⟨⟨hg, ?_, ?_, ?_, ?_⟩, hn', fun n hlt => ?_⟩
 ·show (T.nums ats).1.l.length ≤ K + 10
  omega
 ·show (B.one node (T.nums ats).2).cls.length ≤ N + 111
  rw [hcls, List.length_append]
  have := List.length_filterMap_le form (oneC node (T.nums ats).2)
  omega
 ·show (T.nums ats).1.full = false
  rw [q1]; exact h.notFull
 ·show (T.nums ats).1.limit = 5000
  rw [nums_lim]; exact hlim
 ·show Crit s (T.nums ats).1.l (B.one node (T.nums ats).2).cls n
  have hlt' : n < (T.nums ats).1.l.length := hlt
  by_cases hin : (T.nums ats).1.l.getD n default = a ∨ (T.nums ats).1.l.getD n default ∈ ats
  ·obtain ⟨c, h1, h2, h3⟩ := F.crit (s := s) hl n1 X ha hat hlt' hin
   obtain ⟨f, hf, hfm⟩ := form_some (hrng c h1) h2
   rw [hcls]
   exact ⟨f, List.mem_append_right _ (List.mem_filterMap.2 ⟨c, h1, hf⟩), fun z hz => h3 z ((hfm z).1 hz)⟩
  ·rw [not_or] at hin
   have hold : n < T.l.length := by
    rcases Nat.lt_or_ge n T.l.length with h | h
    ·exact h
    ·exfalso
     refine hin.2 (hmm _ ?_)
     rw [hm, List.getD_eq_getElem?_getD, List.getElem?_append_right h, List.getElem?_eq_getElem (by rw [hm, List.length_append] at hlt'; omega)]
     exact List.getElem_mem _
   have e1 : (T.nums ats).1.l.getD n default = T.l.getD n default := by rw [hm]; exact getD_app hold
   rw [hcls, hm]
   exact (hc n hold (by show T.l.getD n default ≠ a; rw [← e1]; exact hin.1)).mono
theorem relAs_mem {p n : Nat} {a : At} : a ∈ relAs p n ↔ ∃ i, i < n ∧ a = relA p i := by
 unfold relAs
 simp only [List.mem_map, List.mem_range]
 exact ⟨fun ⟨i, hi, e⟩ => ⟨i, hi, e.symm⟩, fun ⟨i, hi, e⟩ => ⟨i, hi, e.symm⟩⟩
theorem valAs_mem {p j n : Nat} {a : At} : a ∈ valAs p j n ↔ ∃ i, i < n ∧ a = valA p j i := by
 unfold valAs
 simp only [List.mem_map, List.mem_range]
 exact ⟨fun ⟨i, hi, e⟩ => ⟨i, hi, e.symm⟩, fun ⟨i, hi, e⟩ => ⟨i, hi, e.symm⟩⟩
theorem node_rel (p n : Nat) : nodeA p ∉ relAs p n := fun h => by
 obtain ⟨i, -, e⟩ := relAs_mem.1 h
 have := congrArg Prod.fst e
 simp [nodeA, relA] at this
theorem node_val (p j n : Nat) : nodeA p ∉ valAs p j n := fun h => by
 obtain ⟨i, -, e⟩ := valAs_mem.1 h
 have := congrArg Prod.fst e
 simp [nodeA, valA] at this
theorem nodup_map {f : Nat → At} (h : ∀ i j, f i = f j → i = j) (n : Nat) : ((List.range n).map f).Nodup := by
 unfold List.Nodup
 rw [List.pairwise_map]
 exact List.pairwise_lt_range.imp fun {a b} hab e => by have := h a b e; omega
theorem relAs_nodup (p n : Nat) : (relAs p n).Nodup := nodup_map (fun i j e => by
 have := congrArg (fun a : At => a.2.2.1) e
 simp [relA] at this
 omega) n
theorem valAs_nodup (p j n : Nat) : (valAs p j n).Nodup := nodup_map (fun i k e => by
 have := congrArg (fun a : At => a.2.2.2) e
 simp [valA] at this
 omega) n
theorem Gx.vars {s : At → Bool} {S : TB} {K N : Nat} (h : Gx s S K N) {p : Nat} {node : Int} (hn : NumOf S.1.l (nodeA p) node) {vs : List VarD} (hs : ∀ v ∈ vs, v.values.length ≤ 10) (hK : K ≤ 2000) (hN : N ≤ 50000) (hc : ∀ n, n < S.1.l.length → Crit s S.1.l S.2.cls n) :
  ∀ j, j ≤ vs.length → j ≤ 4 → (∀ k, k < j → XOne s (nodeA p) (valAs p k (vs.getD k default).values.length)) →
  Gx s (S.vars node p vs j) (K + 10 * j) (N + 111 * j) ∧ NumOf (S.vars node p vs j).1.l (nodeA p) node ∧ ∀ n, n < (S.vars node p vs j).1.l.length → Crit s (S.vars node p vs j).1.l (S.vars node p vs j).2.cls n
 | 0, _, _, _ => ⟨h, hn, hc⟩
 | j + 1, h1, h2, hx => by
  obtain ⟨g1, g2, g3⟩ := Gx.vars h hn hs hK hN hc j (by omega) (by omega) (fun k hk => hx k (by omega))
  have hl : (valAs p j (vs.getD j default).values.length).length ≤ 10 := by
   unfold valAs
   rw [List.length_map, List.length_range]
   refine hs _ ?_
   rw [List.getD_eq_getElem?_getD, List.getElem?_eq_getElem (by omega)]
   exact List.getElem_mem _
  have := g1.row g2 (hx j (by omega)) (node_val p j _) (valAs_nodup p j _) hl (by omega) (by omega) (fun n hn _ => g3 n hn)
  rw [TB.vars, Nat.mul_succ, Nat.mul_succ, ← Nat.add_assoc, ← Nat.add_assoc]
  exact this
structure PackSz (pk : PackD) : Prop where
 rels : pk.rels.length ≤ 10
 vars : pk.vars.length ≤ 4
 vals : ∀ v ∈ pk.vars, v.values.length ≤ 10
theorem Gx.pack {s : At → Bool} {S : TB} {K N : Nat} (h : Gx s S K N) {p : Nat} {pk : PackD} (X : PackX s p pk) (ok : PackSz pk) (hK : K ≤ 1000) (hN : N ≤ 20000) (hc : ∀ n, n < S.1.l.length → Crit s S.1.l S.2.cls n) :
  Gx s (S.pack p pk) (K + 51) (N + 555) ∧ ∀ n, n < (S.pack p pk).1.l.length → Crit s (S.pack p pk).1.l (S.pack p pk).2.cls n := by
 obtain ⟨T, B⟩ := S
 obtain ⟨h1, h2⟩ := h.gd.num (nodeA p)
 obtain ⟨m, hm, hmm⟩ := num_grow T (nodeA p)
 have hlim : T.limit = 5000 := h.lim
 have hroom : T.l.length ≤ K := h.room
 obtain ⟨q1, q2, q3⟩ := num_room (T := T) (by omega) (nodeA p)
 have hnum := h2.resolve_left q3
 have g0 : Gx s ((T.num (nodeA p)).1, B) (K + 1) N := ⟨h1, by show (T.num (nodeA p)).1.l.length ≤ _; omega, h.few, by show (T.num (nodeA p)).1.full = false; rw [q1]; exact h.notFull, by show (T.num (nodeA p)).1.limit = 5000; rw [num_lim]; exact hlim⟩
 have c0 : AllCrit s ((T.num (nodeA p)).1, B) (nodeA p) := fun n hlt hne => by
  have hlt' : n < (T.num (nodeA p)).1.l.length := hlt
  have hne' : (T.num (nodeA p)).1.l.getD n default ≠ nodeA p := hne
  show Crit s (T.num (nodeA p)).1.l B.cls n
  have hold : n < T.l.length := by
   rcases Nat.lt_or_ge n T.l.length with h | h
   ·exact h
   ·exfalso
    refine hne' (hmm _ ?_)
    rw [hm, List.getD_eq_getElem?_getD, List.getElem?_append_right h, List.getElem?_eq_getElem (by rw [hm, List.length_append] at hlt'; omega)]
    exact List.getElem_mem _
  have := (hc n hold).mono (m := m) (ds := [])
  rw [List.append_nil] at this
  rw [hm]
  exact this
 obtain ⟨g1, k1, c1⟩ := g0.row hnum X.rels (node_rel p _) (relAs_nodup p _) (by unfold relAs; rw [List.length_map, List.length_range]; exact ok.rels) (by omega) (by omega) c0
 obtain ⟨g2, -, c2⟩ := g1.vars k1 ok.vals (by omega) (by omega) c1 pk.vars.length (Nat.le_refl _) ok.vars X.vars
 have hv := ok.vars
 refine ⟨⟨g2.gd, Nat.le_trans g2.room (by omega), Nat.le_trans g2.few (by omega), g2.notFull, g2.lim⟩, c2⟩
theorem Gx.choices {s : At → Bool} {x : RecD} : ∀ (l : List Nat) {S : TB} {K N : Nat}, Gx s S K N → (∀ n, n < S.1.l.length → Crit s S.1.l S.2.cls n) → K + 51 * l.length ≤ 1000 → N + 555 * l.length ≤ 20000 → (∀ p ∈ l, PackX s p (x.pack p) ∧ PackSz (x.pack p)) →
  Gx s (S.choices x l) (K + 51 * l.length) (N + 555 * l.length) ∧ ∀ n, n < (S.choices x l).1.l.length → Crit s (S.choices x l).1.l (S.choices x l).2.cls n
 | [], _, _, _, h, hc, _, _, _ => ⟨h, hc⟩
 | p :: l, S, K, N, h, hc, hK, hN, X => by
  simp only [List.length_cons, Nat.mul_succ] at hK hN ⊢
  obtain ⟨X1, X2⟩ := X p List.mem_cons_self
  obtain ⟨g1, c1⟩ := h.pack X1 X2 (by omega) (by omega) hc
  have := Gx.choices l (S := S.pack p (x.pack p)) g1 c1 (by omega) (by omega) (fun q hq => X q (List.mem_cons_of_mem _ hq))
  rw [show K + (51 * l.length + 51) = K + 51 + 51 * l.length by omega, show N + (555 * l.length + 555) = N + 555 + 555 * l.length by omega]
  exact this
structure Less (L : Nat) (T1 T2 : Tab) : Prop where
 l : T1.l = T2.l.take L
 full : T1.full = decide (L < T2.l.length)
 lim : T1.limit = L
 room : T2.full = false
 lim2 : T2.limit = 5000
theorem Less.num {L : Nat} {T1 T2 : Tab} (h : Less L T1 T2) (hl : T2.l.length < 5000) (a : At) : Less L (T1.num a).1 (T2.num a).1 := by
 obtain ⟨h1, h2, h3, h4, h5⟩ := h
 unfold Tab.num
 by_cases m2 : a ∈ T2.l
 ·rw [if_pos m2]
  by_cases m1 : a ∈ T1.l
  ·rw [if_pos m1]; exact ⟨h1, h2, h3, h4, h5⟩
  ·rw [if_neg m1]
   have hlt : L < T2.l.length := by
    rcases Nat.lt_or_ge L T2.l.length with h | h
    ·exact h
    ·rw [List.take_of_length_le h] at h1; rw [h1] at m1; exact absurd m2 m1
   rw [if_pos (by rw [h3, h1, List.length_take]; omega)]
   exact ⟨h1, by show true = _; rw [decide_eq_true hlt], h3, h4, h5⟩
 ·have m1 : a ∉ T1.l := fun h => m2 (by rw [h1] at h; exact List.mem_of_mem_take h)
  rw [if_neg m1, if_neg m2, if_neg (show ¬ T2.limit ≤ T2.l.length by omega)]
  split
  ·rename_i hc
   rw [h3, h1, List.length_take] at hc
   refine ⟨?_, ?_, h3, h4, h5⟩
   ·show T1.l = (T2.l ++ [a]).take L
    rw [List.take_append_of_le_length (by omega)]; exact h1
   ·show true = decide (L < (T2.l ++ [a]).length)
    rw [decide_eq_true]; simp; omega
  ·rename_i hc
   rw [h3, h1, List.length_take] at hc
   refine ⟨?_, ?_, h3, h4, h5⟩
   ·show T1.l ++ [a] = (T2.l ++ [a]).take L
    rw [h1, List.take_of_length_le (show T2.l.length ≤ L by omega), List.take_of_length_le (by simp; omega)]
   ·show T1.full = decide (L < (T2.l ++ [a]).length)
    rw [h2, decide_eq_false (by omega), decide_eq_false]; simp; omega
theorem Less.nums : ∀ (ats : List At) {L : Nat} {T1 T2 : Tab}, Less L T1 T2 → T2.l.length + ats.length ≤ 5000 → Less L (T1.nums ats).1 (T2.nums ats).1
 | [], _, _, _, h, _ => h
 | a :: r, L, T1, T2, h, hl => by
  simp only [List.length_cons] at hl
  rw [Tab.nums, Tab.nums]
  have hlim := h.lim2
  have := (num_room (T := T2) (by omega) a).2.1
  exact Less.nums r (h.num (by omega) a) (by omega)
theorem less_row {L : Nat} {S1 S2 : TB} (h : Less L S1.1 S2.1) {K : Nat} (hK : S2.1.l.length ≤ K) {ats : List At} (ha : ats.length ≤ 10) (hb : K ≤ 4000) (n1 n2 : Int) : Less L (S1.row n1 ats).1 (S2.row n2 ats).1 ∧ (S2.row n2 ats).1.l.length ≤ K + 10 := by
 refine ⟨h.nums ats (by omega), ?_⟩
 have hlim := h.lim2
 have := (nums_room ats (T := S2.1) (by omega)).2.1
 show (S2.1.nums ats).1.l.length ≤ _
 omega
theorem less_vars {L : Nat} {S1 S2 : TB} (h : Less L S1.1 S2.1) {K : Nat} (hK : S2.1.l.length ≤ K) (hb : K ≤ 3000) {p : Nat} {vs : List VarD} (hs : ∀ v ∈ vs, v.values.length ≤ 10) (n1 n2 : Int) : ∀ j, j ≤ vs.length → j ≤ 4 → Less L (S1.vars n1 p vs j).1 (S2.vars n2 p vs j).1 ∧ (S2.vars n2 p vs j).1.l.length ≤ K + 10 * j
 | 0, _, _ => ⟨h, hK⟩
 | j + 1, h1, h2 => by
  obtain ⟨g1, g2⟩ := less_vars h hK hb (p := p) hs n1 n2 j (by omega) (by omega)
  have hl : (valAs p j (vs.getD j default).values.length).length ≤ 10 := by
   unfold valAs
   rw [List.length_map, List.length_range]
   refine hs _ ?_
   rw [List.getD_eq_getElem?_getD, List.getElem?_eq_getElem (by omega)]
   exact List.getElem_mem _
  have := less_row g1 g2 hl (by omega) n1 n2
  rw [TB.vars, TB.vars, Nat.mul_succ, ← Nat.add_assoc]
  exact this
theorem less_pack {L : Nat} {S1 S2 : TB} (h : Less L S1.1 S2.1) {K : Nat} (hK : S2.1.l.length ≤ K) (hb : K ≤ 1000) (p : Nat) {pk : PackD} (ok : PackSz pk) : Less L (S1.pack p pk).1 (S2.pack p pk).1 ∧ (S2.pack p pk).1.l.length ≤ K + 51 := by
 obtain ⟨T1, B1⟩ := S1
 obtain ⟨T2, B2⟩ := S2
 have hK' : T2.l.length ≤ K := hK
 have h' : Less L T1 T2 := h
 have hlim := h'.lim2
 have r1 := (num_room (T := T2) (by omega) (nodeA p)).2.1
 have h1 := h'.num (by omega) (nodeA p)
 obtain ⟨h2, r2⟩ := less_row (S1 := ((T1.num (nodeA p)).1, B1)) (S2 := ((T2.num (nodeA p)).1, B2)) h1 (K := K + 1) (by show (T2.num (nodeA p)).1.l.length ≤ _; omega) (ats := relAs p pk.rels.length) (by unfold relAs; rw [List.length_map, List.length_range]; exact ok.rels) (by omega) (T1.num (nodeA p)).2 (T2.num (nodeA p)).2
 obtain ⟨h3, r3⟩ := less_vars h2 r2 (by omega) (p := p) ok.vals (T1.num (nodeA p)).2 (T2.num (nodeA p)).2 pk.vars.length (Nat.le_refl _) ok.vars
 have hv := ok.vars
 exact ⟨h3, Nat.le_trans r3 (by omega)⟩
theorem less_choices {L : Nat} {x : RecD} : ∀ (l : List Nat) {S1 S2 : TB} {K : Nat}, Less L S1.1 S2.1 → S2.1.l.length ≤ K → K + 51 * l.length ≤ 1000 → (∀ p ∈ l, PackSz (x.pack p)) → Less L (S1.choices x l).1 (S2.choices x l).1 ∧ (S2.choices x l).1.l.length ≤ K + 51 * l.length
 | [], _, _, _, h, hK, _, _ => ⟨h, hK⟩
 | p :: l, S1, S2, K, h, hK, hb, X => by
  simp only [List.length_cons, Nat.mul_succ] at hb ⊢
  obtain ⟨h1, r1⟩ := less_pack h hK (by omega) p (X p List.mem_cons_self)
  have := less_choices l (S1 := S1.pack p (x.pack p)) (S2 := S2.pack p (x.pack p)) h1 r1 (by omega) (fun q hq => X q (List.mem_cons_of_mem _ hq))
  rw [show K + (51 * l.length + 51) = K + 51 + 51 * l.length by omega]
  exact this
def AtOf (x : RecD) (l : List Nat) (a : At) : Prop := ∃ p ∈ l, a = nodeA p ∨ (∃ i, i < (x.pack p).rels.length ∧ a = relA p i) ∨ ∃ j k, j < (x.pack p).vars.length ∧ k < ((x.pack p).vars.getD j default).values.length ∧ a = valA p j k
def AllOf (P : At → Prop) (S : TB) : Prop := ∀ a ∈ S.1.l, P a
theorem AllOf.row {P : At → Prop} {S : TB} (h : AllOf P S) {ats : List At} (ha : ∀ a ∈ ats, P a) (node : Int) : AllOf P (S.row node ats) := fun a hm => by
 obtain ⟨m, e, hmm⟩ := row_grow S node ats
 rw [e] at hm
 rcases List.mem_append.1 hm with hm | hm
 ·exact h a hm
 ·exact ha a (hmm a hm)
theorem AllOf.choices {x : RecD} {l0 : List Nat} : ∀ (l : List Nat) {S : TB}, AllOf (AtOf x l0) S → (∀ p ∈ l, p ∈ l0) → AllOf (AtOf x l0) (S.choices x l)
 | [], _, h, _ => h
 | p :: l, S, h, hl => by
  refine AllOf.choices l (S := S.pack p (x.pack p)) ?_ (fun q hq => hl q (List.mem_cons_of_mem _ hq))
  have hp := hl p List.mem_cons_self
  obtain ⟨T, B⟩ := S
  have h1 : AllOf (AtOf x l0) ((T.num (nodeA p)).1, B) := fun a ha => by
   obtain ⟨m, e, hmm⟩ := num_grow T (nodeA p)
   have ha' : a ∈ (T.num (nodeA p)).1.l := ha
   rw [e] at ha'
   rcases List.mem_append.1 ha' with ha' | ha'
   ·exact h a ha'
   ·exact ⟨p, hp, .inl (hmm a ha')⟩
  have h2 := h1.row (ats := relAs p (x.pack p).rels.length) (fun a ha => by obtain ⟨i, hi, rfl⟩ := relAs_mem.1 ha; exact ⟨p, hp, .inr (.inl ⟨i, hi, rfl⟩)⟩) (T.num (nodeA p)).2
  have h3 : ∀ j, j ≤ (x.pack p).vars.length → AllOf (AtOf x l0) ((TB.row ((T.num (nodeA p)).1, B) (T.num (nodeA p)).2 (relAs p (x.pack p).rels.length)).vars (T.num (nodeA p)).2 p (x.pack p).vars j) := by
   intro j
   induction j with
   | zero => exact fun _ => h2
   | succ j ih => exact fun hj => (ih (by omega)).row (fun a ha => by obtain ⟨i, hi, rfl⟩ := valAs_mem.1 ha; exact ⟨p, hp, .inr (.inr ⟨j, i, hj, hi, rfl⟩)⟩) _
  exact h3 _ (Nat.le_refl _)
end Cho
namespace Cho
theorem there_nat (c : List CD) (p : Nat) (hp : p < c.length) : thereB c (p : Int) = decide (0 ≤ (c.getD p default).rel) := by
 unfold thereB
 rw [decide_eq_true (by omega), decide_eq_true (by omega), Int.toNat_natCast]
 rfl
theorem so_node (c : List CD) (p : Nat) (hp : p < c.length) : soC c (nodeA p) = decide (0 ≤ (c.getD p default).rel) := there_nat c p hp
theorem so_rel (c : List CD) (p i : Nat) (hp : p < c.length) : soC c (relA p i) = (decide (0 ≤ (c.getD p default).rel) && decide ((c.getD p default).rel = (i : Int))) := by
 show (thereB c (p : Int) && decide ((c.getD (p : Int).toNat default).rel = (i : Int))) = _
 rw [there_nat c p hp, Int.toNat_natCast]
theorem so_val (c : List CD) (p j k : Nat) (hp : p < c.length) : soC c (valA p j k) = (decide (0 ≤ (c.getD p default).rel) && decide ((j : Int) < (c.getD p default).vals.length) && decide ((c.getD p default).vals.getD j 0 = (k : Int))) := by
 show (thereB c (p : Int) && decide ((j : Int) < (c.getD (p : Int).toNat default).vals.length) && decide ((c.getD (p : Int).toNat default).vals.getD (j : Int).toNat 0 = (k : Int))) = _
 rw [there_nat c p hp, Int.toNat_natCast, Int.toNat_natCast]
theorem relAs_get {p n i : Nat} (hi : i < n) : (relAs p n).getD i default = relA p i := by
 unfold relAs
 rw [List.getD_eq_getElem?_getD, List.getElem?_map, List.getElem?_range hi]; rfl
theorem valAs_get {p j n i : Nat} (hi : i < n) : (valAs p j n).getD i default = valA p j i := by
 unfold valAs
 rw [List.getD_eq_getElem?_getD, List.getElem?_map, List.getElem?_range hi]; rfl
theorem relAs_len (p n : Nat) : (relAs p n).length = n := by unfold relAs; simp
theorem valAs_len (p j n : Nat) : (valAs p j n).length = n := by unfold valAs; simp
theorem packX {c : List CD} {p : Nat} (hp : p < c.length) {pk : PackD} (ok : CdOk (c.getD p default) pk) : PackX (soC c) p pk := by
 constructor
 ·unfold XOne
  rw [so_node c p hp, relAs_len]
  refine ⟨fun h i hi => ?_, fun h => ?_⟩
  ·rw [relAs_get hi, so_rel c p i hp, h]; rfl
  ·have h0 := of_decide_eq_true h
   have := ok.hi
   refine ⟨(c.getD p default).rel.toNat, by omega, fun j hj => ?_⟩
   rw [relAs_get hj, so_rel c p j hp, h, Bool.true_and, decide_eq_true_eq]
   omega
 ·intro j hj
  unfold XOne
  rw [so_node c p hp, valAs_len]
  refine ⟨fun h i hi => ?_, fun h => ?_⟩
  ·rw [valAs_get hi, so_val c p j i hp, h]; rfl
  ·have h0 := of_decide_eq_true h
   obtain ⟨v1, v2⟩ := ok.vals h0 j hj
   have hl := ok.len h0
   refine ⟨((c.getD p default).vals.getD j 0).toNat, by omega, fun i hi => ?_⟩
   rw [valAs_get hi, so_val c p j i hp, h, Bool.true_and, decide_eq_true (show (j : Int) < ((c.getD p default).vals.length : Int) by omega), Bool.true_and, decide_eq_true_eq]
   omega
theorem packSz {pk : PackD} (h : PackOk pk) : PackSz pk := ⟨h.rels, h.vars.1, fun v hv => by have := (h.vars.2 v hv).2; omega⟩
def T5 : Tab := ⟨[], 5000, 0, false⟩
def TL (L : Nat) : Tab := ⟨[], L, 0, false⟩
def B0 : Bld := ⟨[], false, false⟩
theorem gd0 (s : At → Bool) {L : Nat} (hL : L ≤ 65536) : Gd s (TL L, B0) := ⟨⟨hL, Nat.zero_le _⟩, List.nodup_nil, rfl, fun f hf => by cases hf⟩
theorem pack_mem {x : RecD} {l : List Nat} (hl : ∀ p ∈ l, p < x.packs.length) {p : Nat} (hp : p ∈ l) : x.pack p ∈ x.packs := by
 unfold RecD.pack
 rw [List.getD_eq_getElem?_getD, List.getElem?_eq_getElem (hl p hp)]
 exact List.getElem_mem _
section
variable {x : RecD} {q : ReqD} (h : SmallCh x q) {l : List Nat} (hl : ∀ p ∈ l, p < x.packs.length) (hn : l.Nodup) (by_ : List Nat)
include h hl
theorem small_len (hn : l.Nodup) : l.length ≤ 8 := by
 have h1 : l.length ≤ (List.range x.packs.length).length := List.Nodup.length_le_of_subset hn (fun p hp => List.mem_range.2 (hl p hp))
 rw [List.length_range] at h1
 have := h.packs
 omega
theorem packXs (by_ : List Nat) {p : Nat} (hp : p ∈ l) : PackX (soC (gOf x q l by_).c) p (x.pack p) ∧ PackSz (x.pack p) := by
 have g := gOf_ok (x := x) (q := q) (l := l) (by_ := by_) fun p hp v hv => ((h.all p hp).vars.2 v hv).1
 have hp2 := hl p hp
 exact ⟨packX (by rw [g.len]; exact hp2) (g.ok p hp2), packSz (h.all _ (pack_mem hl hp))⟩
theorem choices_law (hn : l.Nodup) (by_ : List Nat) {S : TB} (hS : S = TB.choices (T5, B0) x l) :
  S.2.bad = false ∧ S.1.full = false ∧ Cnf.holdsB S.2.cls (S.1.l.map (soC (gOf x q l by_).c)) = true ∧ S.1.l.length ≤ 5000 ∧
  ∀ n, n < S.1.l.length → Cnf.holdsB S.2.cls ((S.1.l.map (soC (gOf x q l by_).c)).set n (!(S.1.l.map (soC (gOf x q l by_).c)).getD n false)) = false := by
 subst hS
 have hlen := small_len h hl hn
 obtain ⟨g, hc⟩ := Gx.choices (s := soC (gOf x q l by_).c) (x := x) l (S := (T5, B0)) (K := 0) (N := 0) ⟨gd0 _ (by omega), Nat.le_refl _, Nat.le_refl _, rfl, rfl⟩ (fun n hn => by have : n < 0 := hn; omega) (by omega) (by omega) (fun p hp => packXs h hl by_ hp)
 have hr := g.room
 exact ⟨g.gd.bad, g.notFull, g.gd.holds, by omega, fun n hlt => (hc n hlt).breaks (Nat.le_trans g.gd.ok.len g.gd.ok.lim) hlt⟩
theorem choices_lim (hn : l.Nodup) (by_ : List Nat) {L : Nat} (hL : L ≤ 255) {S A : TB} (hS : S = TB.choices (TL L, B0) x l) (hA : A = TB.choices (T5, B0) x l) :
  S.2.bad = false ∧ S.1.full = decide (L < A.1.l.length) ∧ Cnf.holdsB S.2.cls (S.1.l.map (soC (gOf x q l by_).c)) = true ∧ S.1.l.length ≤ L ∧ A.1.l.length ≤ 5000 := by
 subst hS hA
 have hlen := small_len h hl hn
 have g := Gd.choices (s := soC (gOf x q l by_).c) (x := x) l (gd0 _ (by omega : L ≤ 65536)) fun p hp => (packXs h hl by_ hp).1
 obtain ⟨k, hk⟩ := less_choices (L := L) (x := x) l (S1 := (TL L, B0)) (S2 := (T5, B0)) (K := 0) ⟨by simp [TL, T5], by simp [TL, T5], rfl, rfl, rfl⟩ (Nat.le_refl _) (by omega) fun p hp => (packXs h hl by_ hp).2
 refine ⟨g.bad, k.full, g.holds, ?_, by omega⟩
 rw [k.l, List.length_take]
 omega
end
theorem atoms_of {x : RecD} {l : List Nat} {T : Tab} (hT : T.l = []) (B : Bld) : ∀ a ∈ (TB.choices (T, B) x l).1.l, AtOf x l a :=
 AllOf.choices (x := x) (l0 := l) l (S := (T, B)) (fun a ha => by have : a ∈ T.l := ha; rw [hT] at this; cases this) (fun p hp => hp)
end Cho
end Go.Proofs.YtbapkcnfacklaaaGreat

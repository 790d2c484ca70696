/- Arguments that came in: recipes, requests, texts, as they lie (for reading). -/
import Derived.Test.YtmlfchjompfmaaaGreatDoorRec1
import Derived.Test.YtmlfchjompfmaaaGreatDoorOpA
set_option linter.unusedVariables false
namespace Go.Proofs.YtmlfchjompfmaaaGreatDoor
open Go.RowKit Go.Deep Go.ChangeShapes Go.WideShapes Go.ChangeAt
section
variable {H : Type} {enc : TypeId × Value → H} {w : World} {base : Nat} {spare : Nat → Bool} {held : Bool} {x : DataW H × List MemPlace}
def Reads {α : Type} (enc : TypeId × Value → H) (w : World) (base : Nat) (spare : Nat → Bool) (held : Bool) (t : TypeId) (C : Nat → World → List Value → α → Prop) : Prop :=
 ∀ {fuel : Nat} {cs : List Value} {x : DataW H × List MemPlace}, DataW.trod enc Tryz.prog w base spare held fuel t cs = some x → ∃ d, C w.heap.size w cs d
theorem rowT_of {α : Type} [Inhabited α] {n : Nat} {C : Nat → World → List Value → α → Prop} {t e : TypeId} (hn : 0 < n) (ht : Tryz.prog.underlying t = some (.slice e)) (he : Tryz.prog.cellsOf e = n) (hC : Reads enc w base spare held e C) {fuel : Nat} {cs : List Value}
  (h : DataW.trod enc Tryz.prog w base spare held fuel t cs = some x) : ∃ v xs, cs = [v] ∧ RowT n C w.heap.size w v xs := by
 rcases open_slice ht h with ⟨rfl, _⟩ | ⟨a, len, cap, m, f, D, Pl, rfl, hb, hl, hm, hmm, hx, hi⟩
 ·exact ⟨_, [], rfl, RowT.nilRow⟩
 ·have hlm : len ≤ m := by rw [hmm]; split <;> omega
  obtain ⟨F, hF⟩ := choose_lt (α := α) (n := len) (p := fun i q => ∃ cs', cs'.length = n ∧ (∀ j u, cs'[j]? = some u → w.cell? ((a.add (i * n)).add j) = some u) ∧ C w.heap.size w cs' q) (fun i hil => by
   obtain ⟨cs', h1, h2⟩ := hi i (by omega)
   rw [he] at h1
   obtain ⟨_, hlen, hat⟩ := World.cells?_some h1
   obtain ⟨d, hd⟩ := hC h2
   exact ⟨d, cs', hlen, fun j u hu => (hat j (by have := (List.getElem?_eq_some_iff.1 hu).1; omega)).trans hu, hd⟩)
  unfold maxLen at hm
  refine ⟨_, (List.range len).map F, rfl, ⟨some a, cap, by simp, by simp; omega, by omega⟩, fun ao len' cap' hv hp => ?_, fun len' cap' hv => by simp at hv⟩
  simp only [List.length_map, List.length_range] at hp ⊢
  simp only [Value.slice.injEq] at hv
  obtain ⟨rfl, -, -⟩ := hv
  obtain ⟨blk, off, spot⟩ := a
  obtain ⟨cs0, hl0, hr0, -⟩ := hF 0 hp
  have h00 : cs0[0]? = some (cs0[0]'(by omega)) := List.getElem?_eq_getElem _
  have hspot : spot = none := by
   have := hr0 0 _ h00
   simpa [Addr.add] using World.cell?_spot this
  subst hspot
  refine ⟨blk, off, rfl, ?_, Nat.le_refl _, fun i hi2 => ?_⟩
  ·have := World.block_lt_of_cell? _ _ (hr0 0 _ h00)
   simpa [Addr.add] using this
  ·obtain ⟨cs', g0, g1, g2⟩ := hF i hi2
   refine ⟨cs', g0, fun j u hu => ?_, by simpa using g2⟩
   have := g1 j u hu
   simpa only [Go.WideShapes.add_plain] using this
theorem cellsOf_str : Tryz.prog.cellsOf 9 = 1 := by kernel_rfl
theorem cellsOf_bool : Tryz.prog.cellsOf 4 = 1 := by kernel_rfl
theorem cellsOf_span : Tryz.prog.cellsOf 100 = 2 := by kernel_rfl
theorem cellsOf_set : Tryz.prog.cellsOf 50 = 2 := by kernel_rfl
theorem cellsOf_spec : Tryz.prog.cellsOf 48 = 3 := by kernel_rfl
theorem cellsOf_rel : Tryz.prog.cellsOf 61 = 2 := by kernel_rfl
theorem cellsOf_var : Tryz.prog.cellsOf 68 = 2 := by kernel_rfl
theorem cellsOf_dep : Tryz.prog.cellsOf 52 = 7 := by kernel_rfl
theorem cellsOf_con : Tryz.prog.cellsOf 71 = 7 := by kernel_rfl
theorem cellsOf_pack : Tryz.prog.cellsOf 36 = 8 := by kernel_rfl
theorem cellsOf_pref : Tryz.prog.cellsOf 44 = 3 := by kernel_rfl
theorem cellsOf_rec : Tryz.prog.cellsOf 25 = 2 := by kernel_rfl
theorem cellsOf_sls : Tryz.prog.cellsOf 28 = 1 := by kernel_rfl
theorem cellsOf_slspan : Tryz.prog.cellsOf 45 = 1 := by kernel_rfl
theorem cellsOf_slset : Tryz.prog.cellsOf 46 = 1 := by kernel_rfl
theorem cellsOf_slrel : Tryz.prog.cellsOf 31 = 1 := by kernel_rfl
theorem cellsOf_slvar : Tryz.prog.cellsOf 32 = 1 := by kernel_rfl
theorem cellsOf_sldep : Tryz.prog.cellsOf 33 = 1 := by kernel_rfl
theorem cellsOf_slcon : Tryz.prog.cellsOf 34 = 1 := by kernel_rfl
theorem cellsOf_slpack : Tryz.prog.cellsOf 22 = 1 := by kernel_rfl
theorem cellsOf_slpref : Tryz.prog.cellsOf 23 = 1 := by kernel_rfl
theorem reads_str : Reads (H := H) enc w base spare held 9 StrC := fun h => by
 obtain ⟨s, rfl, -, hs⟩ := DataW.trod_string Tryz.underlying9 h
 exact ⟨s, rfl, hs⟩
set_option maxRecDepth 100000 in
theorem reads_span : Reads (H := H) enc w base spare held 100 SpanC := fun {fuel cs x} ht => by
 obtain ⟨xs, m, _, hx, hlen, hxl, hf⟩ := DataW.trod_struct Tryz.underlying100 ht
 rw [cellsOf_span] at hlen
 match cs, hlen with
 | [c0, c1], _ =>
  match xs, hxl with
  | [x0, x1], _ =>
   have f0 := hf 0 _ rfl
   have f1 := hf 1 _ rfl
   obtain ⟨s0, e0, h0⟩ := reads_str f0
   obtain ⟨s1, e1, h1⟩ := reads_str f1
   simp [cellsOf_str] at e0 e1
   subst e0 e1
   exact ⟨⟨s0, s1⟩, rfl, h0, h1⟩
set_option maxRecDepth 100000 in
theorem reads_set : Reads (H := H) enc w base spare held 50 SetC := fun {fuel cs x} ht => by
 obtain ⟨xs, m, _, hx, hlen, hxl, hf⟩ := DataW.trod_struct Tryz.underlying50 ht
 rw [cellsOf_set] at hlen
 match cs, hlen with
 | [c0, c1], _ =>
  match xs, hxl with
  | [x0, x1], _ =>
   have f0 := hf 0 _ rfl
   have f1 := hf 1 _ rfl
   obtain ⟨s0, e0, h0⟩ := reads_str f0
   obtain ⟨s1, e1, h1⟩ := reads_str f1
   simp [cellsOf_str] at e0 e1
   subst e0 e1
   exact ⟨⟨s0, s1⟩, rfl, h0, h1⟩
set_option maxRecDepth 100000 in
theorem reads_rel : Reads (H := H) enc w base spare held 61 RelC := fun {fuel cs x} ht => by
 obtain ⟨xs, m, _, hx, hlen, hxl, hf⟩ := DataW.trod_struct Tryz.underlying61 ht
 rw [cellsOf_rel] at hlen
 match cs, hlen with
 | [c0, c1], _ =>
  match xs, hxl with
  | [x0, x1], _ =>
   have f0 := hf 0 _ rfl
   have f1 := hf 1 _ rfl
   obtain ⟨s0, e0, h0⟩ := reads_str f0
   obtain ⟨k1, e1, _⟩ := DataW.trod_bool Tryz.underlying4 f1
   simp [cellsOf_str, cellsOf_bool] at e0 e1
   subst e0 e1
   exact ⟨⟨s0, k1⟩, rfl, h0⟩
set_option maxRecDepth 100000 in
theorem reads_spec : Reads (H := H) enc w base spare held 48 SpecC := fun {fuel cs x} ht => by
 obtain ⟨xs, m, _, hx, hlen, hxl, hf⟩ := DataW.trod_struct Tryz.underlying48 ht
 rw [cellsOf_spec] at hlen
 match cs, hlen with
 | [c0, c1, c2], _ =>
  match xs, hxl with
  | [x0, x1, x2], _ =>
   have f0 := hf 0 _ rfl
   have f1 := hf 1 _ rfl
   have f2 := hf 2 _ rfl
   obtain ⟨s0, e0, h0⟩ := reads_str f0
   obtain ⟨v1, l1, e1, h1⟩ := rowT_of (by decide) Tryz.underlying45 cellsOf_span reads_span f1
   obtain ⟨v2, l2, e2, h2⟩ := rowT_of (by decide) Tryz.underlying46 cellsOf_set reads_set f2
   simp [cellsOf_str, cellsOf_slspan, cellsOf_slset] at e0 e1 e2
   subst e0 e1 e2
   exact ⟨⟨s0, l1, l2⟩, _, _, rfl, h0, h1, h2⟩
set_option maxRecDepth 100000 in
theorem reads_var : Reads (H := H) enc w base spare held 68 VarC := fun {fuel cs x} ht => by
 obtain ⟨xs, m, _, hx, hlen, hxl, hf⟩ := DataW.trod_struct Tryz.underlying68 ht
 rw [cellsOf_var] at hlen
 match cs, hlen with
 | [c0, c1], _ =>
  match xs, hxl with
  | [x0, x1], _ =>
   have f0 := hf 0 _ rfl
   have f1 := hf 1 _ rfl
   obtain ⟨s0, e0, h0⟩ := reads_str f0
   obtain ⟨v1, l1, e1, h1⟩ := rowT_of (by decide) Tryz.underlying28 cellsOf_str reads_str f1
   simp [cellsOf_str, cellsOf_sls] at e0 e1
   subst e0 e1
   exact ⟨⟨s0, l1⟩, _, rfl, h0, h1⟩
set_option maxRecDepth 100000 in
theorem reads_dep : Reads (H := H) enc w base spare held 52 DepC := fun {fuel cs x} ht => by
 obtain ⟨xs, m, _, hx, hlen, hxl, hf⟩ := DataW.trod_struct Tryz.underlying52 ht
 rw [cellsOf_dep] at hlen
 match cs, hlen with
 | [c0, c1, c2, c3, c4, c5, c6], _ =>
  match xs, hxl with
  | [x0, x1, x2], _ =>
   have f0 := hf 0 _ rfl
   have f1 := hf 1 _ rfl
   have f2 := hf 2 _ rfl
   obtain ⟨s0, h0⟩ := reads_spec f0
   obtain ⟨s1, h1⟩ := reads_spec f1
   obtain ⟨k, e2, _, wf⟩ := DataW.trod_int Tryz.underlying3 f2
   simp [cellsOf_spec] at h0 h1
   simp [cellsOf_int] at e2
   subst e2
   exact ⟨⟨s0, s1, k⟩, _, _, rfl, h0, h1, bounds_i64 wf⟩
set_option maxRecDepth 100000 in
theorem reads_con : Reads (H := H) enc w base spare held 71 ConC := fun {fuel cs x} ht => by
 obtain ⟨xs, m, _, hx, hlen, hxl, hf⟩ := DataW.trod_struct Tryz.underlying71 ht
 rw [cellsOf_con] at hlen
 match cs, hlen with
 | [c0, c1, c2, c3, c4, c5, c6], _ =>
  match xs, hxl with
  | [x0, x1, x2], _ =>
   have f0 := hf 0 _ rfl
   have f1 := hf 1 _ rfl
   have f2 := hf 2 _ rfl
   obtain ⟨s0, h0⟩ := reads_spec f0
   obtain ⟨s1, h1⟩ := reads_spec f1
   obtain ⟨k, e2, _, wf⟩ := DataW.trod_int Tryz.underlying3 f2
   simp [cellsOf_spec] at h0 h1
   simp [cellsOf_int] at e2
   subst e2
   exact ⟨⟨s0, s1, k⟩, _, _, rfl, h0, h1, bounds_i64 wf⟩
set_option maxRecDepth 100000 in
theorem reads_pack : Reads (H := H) enc w base spare held 36 PackC := fun {fuel cs x} ht => by
 obtain ⟨xs, m, _, hx, hlen, hxl, hf⟩ := DataW.trod_struct Tryz.underlying36 ht
 rw [cellsOf_pack] at hlen
 match cs, hlen with
 | [c0, c1, c2, c3, c4, c5, c6, c7], _ =>
  match xs, hxl with
  | [x0, x1, x2, x3, x4, x5, x6, x7], _ =>
   have f0 := hf 0 _ rfl
   have f1 := hf 1 _ rfl
   have f2 := hf 2 _ rfl
   have f3 := hf 3 _ rfl
   have f4 := hf 4 _ rfl
   have f5 := hf 5 _ rfl
   have f6 := hf 6 _ rfl
   have f7 := hf 7 _ rfl
   obtain ⟨s0, e0, h0⟩ := reads_str f0
   obtain ⟨k, e1, _, wf⟩ := DataW.trod_int Tryz.underlying3 f1
   obtain ⟨v2, l2, e2, h2⟩ := rowT_of (by decide) Tryz.underlying31 cellsOf_rel reads_rel f2
   obtain ⟨v3, l3, e3, h3⟩ := rowT_of (by decide) Tryz.underlying32 cellsOf_var reads_var f3
   obtain ⟨v4, l4, e4, h4⟩ := rowT_of (by decide) Tryz.underlying28 cellsOf_str reads_str f4
   obtain ⟨v5, l5, e5, h5⟩ := rowT_of (by decide) Tryz.underlying33 cellsOf_dep reads_dep f5
   obtain ⟨v6, l6, e6, h6⟩ := rowT_of (by decide) Tryz.underlying34 cellsOf_con reads_con f6
   obtain ⟨v7, l7, e7, h7⟩ := rowT_of (by decide) Tryz.underlying28 cellsOf_str reads_str f7
   simp [cellsOf_str, cellsOf_int, cellsOf_slrel, cellsOf_slvar, cellsOf_sls, cellsOf_sldep, cellsOf_slcon] at e0 e1 e2 e3 e4 e5 e6 e7
   subst e0 e1 e2 e3 e4 e5 e6 e7
   exact ⟨⟨s0, k, l2, l3, l4, l5, l6, l7⟩, _, _, _, _, _, _, rfl, h0, bounds_i64 wf, h2, h3, h4, h5, h6, h7⟩
set_option maxRecDepth 100000 in
theorem reads_pref : Reads (H := H) enc w base spare held 44 PrefC := fun {fuel cs x} ht => by
 obtain ⟨xs, m, _, hx, hlen, hxl, hf⟩ := DataW.trod_struct Tryz.underlying44 ht
 rw [cellsOf_pref] at hlen
 match cs, hlen with
 | [c0, c1, c2], _ =>
  match xs, hxl with
  | [x0, x1, x2], _ =>
   have f0 := hf 0 _ rfl
   have f1 := hf 1 _ rfl
   have f2 := hf 2 _ rfl
   obtain ⟨s0, e0, h0⟩ := reads_str f0
   obtain ⟨v1, l1, e1, h1⟩ := rowT_of (by decide) Tryz.underlying28 cellsOf_str reads_str f1
   obtain ⟨k, e2, _, wf⟩ := DataW.trod_int Tryz.underlying3 f2
   simp [cellsOf_str, cellsOf_sls, cellsOf_int] at e0 e1 e2
   subst e0 e1 e2
   exact ⟨⟨s0, l1, k⟩, _, rfl, h0, bounds_i64 wf, h1⟩
set_option maxRecDepth 100000 in
theorem reads_rec : Reads (H := H) enc w base spare held 25 RecC := fun {fuel cs x} ht => by
 obtain ⟨xs, m, _, hx, hlen, hxl, hf⟩ := DataW.trod_struct Tryz.underlying25 ht
 rw [cellsOf_rec] at hlen
 match cs, hlen with
 | [c0, c1], _ =>
  match xs, hxl with
  | [x0, x1], _ =>
   have f0 := hf 0 _ rfl
   have f1 := hf 1 _ rfl
   obtain ⟨v0, l0, e0, h0⟩ := rowT_of (by decide) Tryz.underlying22 cellsOf_pack reads_pack f0
   obtain ⟨v1, l1, e1, h1⟩ := rowT_of (by decide) Tryz.underlying23 cellsOf_pref reads_pref f1
   simp [cellsOf_slpack, cellsOf_slpref] at e0 e1
   subst e0 e1
   exact ⟨⟨l0, l1⟩, _, _, rfl, h0, h1⟩
end
end Go.Proofs.YtmlfchjompfmaaaGreatDoor

/- Lrn1 Lrn2 LrnF Region5 Lrn3 Lrn4, in one text. -/
import Derived.Test.YtjedgdamommgeaaGreatBase
import Derived.Maps.OwnSet
import Derived.Maps.OwnOps
import Derived.Lib.SlKeysI
import Derived.Test.YtjedgdamommgeaaGreatPrO
import Derived.Lib.LazyBuf
import Derived.Test.YtjedgdamommgeaaGreatRegs
import Derived.Deep.Quiet
set_option linter.unusedVariables false
namespace Go.Proofs.YtjedgdamommgeaaGreat
open Go.RowKit
theorem inZ : InI64 0 := ⟨by decide, by decide⟩
theorem lawInt : Maps.Keyed Tryz.prog 3 := Maps.int_keyed Tryz.underlying3
theorem zeroInt (w : World) : (zeroValue 3).run Tryz.prog w = .ok (.int .i64 0) w := by kernel_rfl
abbrev kI (x : Int) : Lit := .int .i64 x
theorem wfI {x : Int} (hx : InI64 x) : (kI x).wf = true := WalkArith.wf_i64 hx
theorem keyI {x : Int} (hx : InI64 x) : keyOf Tryz.prog 3 (cI x) = some (kI x) := Maps.keyOf_int_mk Tryz.underlying3 (wfI hx)
theorem kI_ne {x y : Int} (h : y ≠ x) : kI y ≠ kI x := fun e => h (by injection e)
structure IMap (w : World) (B : Nat) (ks : List Int) (f : Int → Int) : Prop where
 own : ∃ D : DataW Unit, w.ownsMap Tryz.prog 3 (plainElem Tryz.prog 3) B ks.length D ∧ (∀ x, D.atKey (kI x) (.lit (kI 0)) = .lit (kI (f x))) ∧ (∀ x, Maps.has D (kI x) = decide (x ∈ ks)) ∧ Maps.size D = ks.length
 nd : ks.Nodup
 out : ∀ x, x ∉ ks → f x = 0
 val : ∀ x, InI64 (f x)
 rng : ∀ x ∈ ks, InI64 x
def addK (ks : List Int) (x : Int) : List Int := if x ∈ ks then ks else ks ++ [x]
def upd (f : Int → Int) (x v : Int) : Int → Int := fun y => if y = x then v else f y
theorem mem_addK {ks : List Int} {x y : Int} : y ∈ addK ks x ↔ y ∈ ks ∨ y = x := by
 unfold addK; split
 ·rename_i h
  constructor
  ·exact .inl
  ·rintro (h1 | rfl)
   ·exact h1
   ·exact h
 ·simp
section
variable {w w' : World} {B : Nat} {ks : List Int} {f : Int → Int}
theorem IMap.lt (h : IMap w B ks f) : B < w.heap.size := by obtain ⟨D, h1, _⟩ := h.own; exact h1.lt
theorem IMap.only {F : Nat → Prop} (h : IMap w B ks f) (ho : Only F w w') (hF : ¬ F B) : IMap w' B ks f := by
 have hlt := h.lt
 obtain ⟨D, ⟨es, clock, hb, Ft, hs, hD⟩, h2⟩ := h.own
 exact ⟨⟨D, ⟨es, clock, (ho.block B hlt hF).trans hb, Ft, hs, hD⟩, h2⟩, h.nd, h.out, h.val, h.rng⟩
theorem IMap.only0 (h : IMap w B ks f) (ho : Only (fun _ => False) w w') : IMap w' B ks f := h.only ho (fun f => f)
theorem IMap.made (w : World) : IMap (w.alloc (.map #[] 0)) w.heap.size [] (fun _ => 0) :=
 ⟨⟨.map [], World.ownsMap_made _ _ _ _, fun x => rfl, fun x => by simp [Maps.has], rfl⟩, List.nodup_nil, fun _ _ => rfl, fun _ => inZ, fun x hx => by cases hx⟩
theorem IMap.look (h : IMap w B ks f) {x : Int} (hx : InI64 x) : (Instr.lookup 138 (.map (some B)) (cI x) false).run Tryz.prog w = .ok (cI (f x)) w := by
 obtain ⟨D, h1, h2, h3, h4⟩ := h.own
 obtain ⟨c, hrun, hat, _⟩ := h1.lookup_int lawInt Tryz.underlying138 Tryz.underlying3 (zeroInt _) (keyI hx)
 rw [h2] at hat
 have : f x = c := (Lit.int.inj (DataW.lit.inj hat)).2
 rw [this]; exact hrun
theorem IMap.len (h : IMap w B ks f) (ty : TypeId) : (Builtin.len_ #[138] ty #[.map (some B)]).run Tryz.prog w = .ok (.int .i64 (ks.length : Int)) w := by
 obtain ⟨D, h1, h2, h3, h4⟩ := h.own
 rw [h1.len Tryz.underlying138 ty, h4]
theorem turned_only {b : Nat} (h : w.mapTurned w' b) : Only (fun k => k = b) w w' :=
 (Only.refl _ w).grown h.grown fun k hk => .inl (Option.some.inj hk).symm
theorem IMap.store (h : IMap w B ks f) {x v : Int} (hx : InI64 x) (hv : InI64 v) (hl : ks.length < maxLen) :
  ∃ w', (Instr.mapUpdate 138 (.map (some B)) (cI x) (cI v)).run Tryz.prog w = .ok () w' ∧ IMap w' B (addK ks x) (upd f x v) ∧ Only (fun k => k = B) w w' := by
 obtain ⟨D, h1, h2, h3, h4⟩ := h.own
 have hkl : WideAt.IsKeyLit (kI x) := trivial
 obtain ⟨w', hrun, r1, r2⟩ := h1.store lawInt Tryz.underlying138 hl (keyI hx) (plainElem_int Tryz.underlying3 (wfI hv))
 have hsz : Maps.size (D.put (kI x) (.lit (kI v))) = (addK ks x).length := by
  rw [Maps.size_put (h1.tidy lawInt), h3, h4]
  unfold addK
  by_cases hm : x ∈ ks
  ·simp [hm]
  ·simp [hm]
 refine ⟨w', hrun, ⟨⟨_, ?_, fun y => ?_, fun y => ?_, hsz⟩, ?_, fun y hy => ?_, fun y => ?_, fun y hy => ?_⟩, turned_only r2⟩
 ·obtain ⟨es, clock, hb, Ft, hs, hD⟩ := r1
  refine ⟨es, clock, hb, Ft, ?_, hD⟩
  rw [← hsz, hD]
  simp [Maps.size, length_sorted]
 ·unfold upd
  by_cases e : y = x
  ·subst e; rw [if_pos rfl, Maps.atKey_put_same h1.isMap hkl]
  ·rw [if_neg e, Maps.atKey_put_other (kI_ne e), h2]
 ·by_cases e : y = x
  ·subst e; rw [Maps.has_put_same h1.isMap hkl, decide_eq_true (mem_addK.2 (.inr rfl))]
  ·rw [Maps.has_put_other (kI_ne e), h3]
   exact decide_eq_decide.2 (by rw [mem_addK]; simp [e])
 ·unfold addK
  split
  ·exact h.nd
  ·rename_i hn
   rw [List.nodup_append]
   exact ⟨h.nd, by simp, fun a ha b hb e => hn (by simp at hb; rw [← hb, ← e]; exact ha)⟩
 ·rw [mem_addK, not_or] at hy
  unfold upd
  rw [if_neg hy.2]; exact h.out y hy.1
 ·unfold upd; split
  ·exact hv
  ·exact h.val y
 ·rcases mem_addK.1 hy with h5 | rfl
  ·exact h.rng y h5
  ·exact hx
theorem IMap.drop (h : IMap w B ks f) {x : Int} (hx : InI64 x) (ty : TypeId) :
  ∃ w', (Builtin.delete_ #[138, 3] ty #[.map (some B), cI x]).run Tryz.prog w = .ok (.tuple #[]) w' ∧ IMap w' B (ks.erase x) (upd f x 0) ∧ Only (fun k => k = B) w w' := by
 obtain ⟨D, h1, h2, h3, h4⟩ := h.own
 obtain ⟨w', hrun, r1, r2⟩ := h1.drop lawInt Tryz.underlying138 (keyI hx) ty
 have hsz : Maps.size (D.del (kI x)) = (ks.erase x).length := by
  have h5 := Maps.size_del (k := kI x) (h1.tidy lawInt)
  rw [h3, h4] at h5
  rw [List.length_erase]
  by_cases hm : x ∈ ks
  ·simp [hm] at h5 ⊢; omega
  ·simp [hm] at h5 ⊢; omega
 have hmem : ∀ y, y ∈ ks.erase x ↔ y ≠ x ∧ y ∈ ks := fun y => h.nd.mem_erase_iff
 refine ⟨w', hrun, ⟨⟨_, ?_, fun y => ?_, fun y => ?_, hsz⟩, h.nd.erase _, fun y hy => ?_, fun y => ?_, fun y hy => ?_⟩, turned_only r2⟩
 ·obtain ⟨es, clock, hb, Ft, hs, hD⟩ := r1
  refine ⟨es, clock, hb, Ft, ?_, hD⟩
  rw [← hsz, hD]
  simp [Maps.size, length_sorted]
 ·unfold upd
  by_cases e : y = x
  ·subst e; rw [if_pos rfl, Maps.atKey_del_same]
  ·rw [if_neg e, Maps.atKey_del_other (kI_ne e), h2]
 ·by_cases e : y = x
  ·subst e
   rw [Maps.has_del_same, decide_eq_false]
   rw [hmem]; exact fun h => h.1 rfl
  ·rw [Maps.has_del_other (kI_ne e), h3]
   exact decide_eq_decide.2 (by rw [hmem]; simp [e])
 ·unfold upd
  split
  ·rfl
  ·rename_i e
   refine h.out y fun hm => hy ?_
   rw [hmem]; exact ⟨e, hm⟩
 ·unfold upd; split
  ·exact inZ
  ·exact h.val y
 ·exact h.rng y ((hmem y).1 hy).2
theorem IMap.keys (h : IMap w B ks f) : ∃ D : DataW Unit, w.ownsMap Tryz.prog 3 (plainElem Tryz.prog 3) B ks.length D ∧ ks.Perm (intKeys D) ∧ Maps.size D = ks.length := by
 obtain ⟨D, h1, h2, h3, h4⟩ := h.own
 refine ⟨D, h1, ?_, h4⟩
 obtain ⟨es, hD, hpw, _⟩ := h1.entries lawInt
 obtain ⟨es', hD', hko⟩ := h1.keysOf
 obtain rfl : es = es' := by rw [hD] at hD'; simpa using hD'
 subst hD
 exact perm_intKeys hpw (fun p hp => by obtain ⟨v, hv⟩ := hko p hp; obtain ⟨x, _, hx, _⟩ := Maps.keyOf_i64 Tryz.underlying3 hv; exact ⟨x, hx⟩) h.nd (fun x => by rw [h3 x]; simp)
end
end Go.Proofs.YtjedgdamommgeaaGreat
namespace Go.Proofs.YtjedgdamommgeaaGreat
open Go.RowKit
open Tr
namespace Tr
def Trail.clauseL (T : Trail) (k : Int) : Option (List Int) := if T.there k then some (Cnf.formL (T.cl k.toNat)) else none
def Trail.lvl (T : Trail) (l : Int) : Int := (T.at (Cnf.absW l)).1
def Trail.why (T : Trail) (l : Int) : Int := (T.at (Cnf.absW l)).2
def Trail.rsP (T : Trail) (l x : Int) : Bool := Cnf.absW x == Cnf.absW l || T.lvl x == 0
def Trail.reasonL (T : Trail) (l : Int) : Option (List Int) :=
 if T.why l < 0 then none else (T.clauseL (T.why l)).map fun c => c.filter fun x => !T.rsP l x
theorem form_of_good {n : Nat} {c : List Int} (hn : n ≤ 65536) (h : Up.Good n c) : Cnf.form c = some (Cnf.formL c) := by
 have hlit : ∀ x ∈ c, Cnf.Lit x := fun x hx => lit_of (h.lit x hx).1 (by have := (h.lit x hx).2; omega)
 have hw : c.any Cnf.wr = false := Cnf.any_wr hlit
 unfold Cnf.form
 rw [hw]
 simp only [Bool.false_eq_true, if_false]
 have hl2 : ∀ x ∈ Cnf.formL c, Cnf.Lit x := fun x hx => hlit x ((Cnf.mem_formL c x).1 hx)
 have hne : ∀ x ∈ c, -x ∉ c := fun x hx hx2 => h.cons hx hx2
 have hs := Cnf.formL_strict c
 have habs : Cnf.AbsStrict (Cnf.formL c) := by
  unfold Cnf.Strict at hs
  unfold Cnf.AbsStrict
  refine hs.imp_of_mem fun {x y} hx hy hxy => ?_
  rw [Cnf.lt_iff, (hl2 x hx).abs, (hl2 y hy).abs] at hxy
  rcases hxy with h1 | ⟨h1, h2⟩
  ·omega
  ·exfalso
   have : y = -x := by omega
   rw [this] at hy
   exact hne x ((Cnf.mem_formL c x).1 hx) ((Cnf.mem_formL c (-x)).1 hy)
 rw [Cnf.clash_false_of habs hl2]
 rfl
end Tr
section
variable {w : World} {g : Tag} {b : Nat} {V : TrV} {T : Trail}
theorem slEq (W : World) (a : Option Addr) (n c : Nat) : (binOp .eql 23 (.slice a n c) (.slice none 0 0)).run Tryz.prog W = .ok (.bool a.isNone) W := Go.run_eql_slice_nil W 23 3 a n c Tryz.underlying23
theorem slNe (W : World) (a : Option Addr) (n c : Nat) : (binOp .neq 23 (.slice a n c) (.slice none 0 0)).run Tryz.prog W = .ok (.bool (!a.isNone)) W := Go.run_neq_slice_nil W 23 3 a n c Tryz.underlying23
def ClaTo (w : World) (r : Option (List Int)) (e : Ending) (w' : World) : Prop :=
 match r with
 | none => e = .returned nilS ∧ w = w'
 | some c => ∃ ao cap, e = .returned (.slice (some ao) c.length cap) ∧ w'.ownsRow 0 3 1 (.slice (some ao) c.length cap) c.length (c.map cI) ∧ (∀ k, Value.ownBlock (.slice (some ao) c.length cap) = some k → w.heap.size ≤ k) ∧ Only (fun _ => False) w w'
theorem formL_len (c : List Int) : (Cnf.formL c).length ≤ c.length := by
 have h1 := compact_le (Cnf.sortL c)
 have h2 : (Cnf.sortL c).length = c.length := List.length_mergeSort c
 unfold Cnf.formL
 omega
set_option maxRecDepth 100000 in
set_option maxHeartbeats 1600000 in
theorem prop_Clause_any (H : TrAt w g b V T) (o : Ok T) (k : Int) : Calls Tryz.prog 80 #[.pointer (some ⟨b, 0, none⟩), .int .i64 k] w (ClaTo w (T.clauseL k)) := by
 cases ht : T.there k
 ·have hc : T.clauseL k = none := by unfold Trail.clauseL; rw [ht]; rfl
  rw [hc]
  have hth := prop_there_any H o k false ht
  have HTh := Lib.hid hth
  clear hth hc ht H o
  go_enter Tryz.func80, Tryz.ntmps80
  go_wp2_with fail
  refine HTh.out.mono ?_
  rintro e w' ⟨rfl, rfl⟩
  go_wp2_with fail
  go_ret
  exact ⟨rfl, rfl⟩
 ·have hth := prop_there_any H o k true ht
  have HTh := Lib.hid hth
  have ht2 := ht
  unfold Trail.there at ht2
  simp only [Bool.and_eq_true, decide_eq_true_eq] at ht2
  obtain ⟨m, rfl⟩ := Int.eq_ofNat_of_zero_le ht2.1.1
  have hm : m < T.cls.length := by have := ht2.1.2; omega
  have hg := o.cl hm
  have hn := o.n
  have hgl := hg.len
  have hc : T.clauseL (m : Int) = some (Cnf.formL (T.cl m)) := by unfold Trail.clauseL; rw [ht]; rfl
  rw [hc]
  have hci := H.ci m hm
  rw [show T.cls.getD m [] = T.cl m from rfl] at hci
  have hI := hci.ints (fun x hx => by have := hg.lit x hx; unfold InI64; omega)
  have q1 := H.f1
  obtain ⟨bc, cc, hvc, -, -, -, -⟩ := H.c.pos (by rw [H.ul]; omega)
  have hrc := H.c
  rw [hvc, H.ul] at q1 hrc
  have q2 := hrc.cell nilS (i := m) (by rw [H.ul]; exact hm)
  obtain ⟨au, cu, hvu, _, _⟩ := hI.shape
  rw [hvu] at q2 hI
  have hF := Form_any hI (by omega)
  have HF := Lib.hid hF
  have hfo := form_of_good hn hg
  have HFo := Lib.hid hfo
  have hfl := formL_len (T.cl m)
  have dm : decide (m < T.cls.length) = true := decide_eq_true hm
  clear hth hc ht ht2 H o hF hfo hci hI hvc hrc hvu hg
  generalize (T.cl m).length = lm at *
  generalize T.cls.length = lc at *
  have heqn := slEq
  go_enter Tryz.func80, Tryz.ntmps80
  go_wp2_with fail
  refine HTh.out.mono ?_
  rintro e w' ⟨rfl, rfl⟩
  go_wp2_with fail
  refine HF.out.mono ?_
  intro e w1 hp
  unfold FormPost at hp
  rw [HFo.out] at hp
  obtain ⟨v, rfl, R1, N1, O1⟩ := hp
  generalize Cnf.formL (T.cl m) = f at *
  have HO1 := Lib.hid O1
  have HN1 := Lib.hid N1
  have HR1 := Lib.hid R1
  by_cases h0 : f.length = 0
  ·have hf : f = [] := List.eq_nil_of_length_eq_zero h0
   subst hf
   obtain ⟨ao, cap, rfl, -, -⟩ := own_slice R1
   cases ao with
   | none =>
    have hcap : cap = 0 := (own_nil R1).2
    subst hcap
    clear O1 N1 R1
    go_wp2_with fail
    go_ret
    exact ⟨⟨w1.heap.size, 0, none⟩, 0, rfl, own_lit0 w1, fun k hk => by simp [Value.ownBlock] at hk; have := HO1.out.size; omega, HO1.out.alloc _⟩
   | some ad =>
    clear O1 N1 R1
    go_wp2_with fail
    go_ret
    exact ⟨ad, cap, rfl, HR1.out, HN1.out, HO1.out⟩
  ·obtain ⟨gb, cap, rfl, -, -⟩ := own_some R1 (by omega)
   clear O1 N1 R1
   go_wp2_with fail
   go_ret
   exact ⟨⟨gb, 0, none⟩, cap, rfl, HR1.out, HN1.out, HO1.out⟩
theorem learn_abs_any (x r : Int) (hr : Cnf.absW x = r) : Calls Tryz.prog 114 #[.int .i64 x] w fun e w' => e = .returned (.int .i64 r) ∧ w = w' := by
 subst hr
 unfold Cnf.absW
 generalize hy : IntKind.i64.wrap (-x) = y
 go_enter Tryz.func114, Tryz.ntmps114
 go_wp2
 go_ret
 exact ⟨rfl, rfl⟩
theorem absW_in {x : Int} (hx : InI64 x) : InI64 (Cnf.absW x) := by
 unfold Cnf.absW
 unfold InI64 at *
 rw [IntKind.wrap_i64]
 omega
theorem learn_level_any (H : TrAt w g b V T) (o : Ok T) (x : Int) (hx : InI64 x) (r : Int) (hr : T.lvl x = r) :
  Calls Tryz.prog 115 #[.pointer (some ⟨b, 0, none⟩), .int .i64 x] w fun e w' => e = .returned (.int .i64 r) ∧ Only (fun _ => False) w w' := by
 obtain ⟨a, ha⟩ : ∃ a, Cnf.absW x = a := ⟨_, rfl⟩
 have hab := learn_abs_any (w := w) x a ha
 obtain ⟨p1, p2, hp⟩ : ∃ p1 p2, T.at a = (p1, p2) := ⟨_, _, rfl⟩
 have hat := prop_At_any H o a (by rw [← ha]; exact absW_in hx) _ hp
 have hr2 : p1 = r := by rw [← hr]; unfold Trail.lvl; rw [ha, hp]
 subst hr2
 have HAb := Lib.hid hab
 have HAt := Lib.hid hat
 clear hab hat H o hr hp ha hx
 go_enter Tryz.func115, Tryz.ntmps115
 go_wp2_with fail
 refine HAb.out.mono ?_
 rintro e w1 ⟨rfl, rfl⟩
 go_wp2_with fail
 refine HAt.out.mono ?_
 rintro e w2 ⟨rfl, O2⟩
 go_wp2_with fail
 go_ret
 exact ⟨rfl, O2⟩
end
end Go.Proofs.YtjedgdamommgeaaGreat
namespace Go.Proofs.YtjedgdamommgeaaGreat
namespace Tr
open Cnf
structure Stu where
 ks : List Int
 f : Int → Int
 ms : List Int
 mf : Int → Int
 many : Int
def w64 (x : Int) : Int := IntKind.i64.wrap x
def Trail.take1 (T : Trail) (top : Int) (s : Stu) (x : Int) : Stu :=
 if T.lvl x = 0 ∨ s.f (absW x) ≠ 0 then s
 else { ks := addK s.ks (absW x), f := upd s.f (absW x) x, ms := addK s.ms (absW x), mf := upd s.mf (absW x) (w64 (s.mf (absW x) + 1)), many := if T.lvl x = top then w64 (s.many + 1) else s.many }
def Trail.takes (T : Trail) (top : Int) (s : Stu) (l : List Int) : Stu := l.foldl (T.take1 top) s
def Stu.del (s : Stu) (a : Int) : Stu := { s with ks := s.ks.erase a, f := upd s.f a 0, many := w64 (s.many - 1) }
def Trail.goes (T : Trail) (top : Int) : Stu → List Int → Stu × Option Int
 | s, [] => (s, none)
 | s, x :: r =>
  if s.f (absW x) = 0 ∨ T.lvl (absW x) ≠ top then T.goes top s r
  else if s.many = 1 then (s, some (s.f (absW x)))
  else match T.reasonL x with
   | none => (s, none)
   | some l => T.goes top (T.takes top (s.del (absW x)) l) r
def sortI (l : List Int) : List Int := l.mergeSort fun x y => decide (x ≤ y)
def Trail.covers (T : Trail) (s : Stu) (x : Int) : Bool :=
 match T.reasonL (w64 (-x)) with
 | some l => !(l.any fun y => s.f (absW y) == 0)
 | none => false
def Trail.others (T : Trail) (s : Stu) (first : Int) : List Int :=
 ((sortI s.ks).map s.f).filter fun x => !(x == first || T.covers s x)
def Stu.new : Stu := ⟨[], fun _ => 0, [], fun _ => 0, 0⟩
def Trail.top (T : Trail) (c : List Int) : Int := c.foldl (fun t l => max t (T.lvl l)) 0
structure Less where
 clause : List Int
 back : Int
 atoms : List Int
def Trail.lesson (T : Trail) (k : Int) : Option (Option Less) :=
 match T.clauseL k with
 | none => none
 | some c =>
  if c.any (fun l => decide (0 ≤ T.val l)) then none
  else if T.top c = 0 then some none
  else match T.goes (T.top c) (T.takes (T.top c) Stu.new c) T.lits.reverse with
   | (_, none) => none
   | (s, some first) => some (some ⟨first :: T.others s first, (T.others s first).foldl (fun b l => max b (T.lvl l)) 0, sortI s.ms⟩)
end Tr
section
variable {P : Program} {ops : Array Oper} {C : World → Prop} {Q : Act → Prop} {a : Act} {o : Oper} {rest : List Oper}
theorem wpQ_val {v : Value} (hw : Region.wanted o (yielded ops a.tmps) = true) (hv : ∀ w, C w → (execOp a.eval o).run P w = .ok (.value v) w)
  (h : wpQuiet P ops C Q rest (a.put o.dst v)) : wpQuiet P ops C Q (o :: rest) a :=
 wpQuiet_step fun K hK => by
  rw [if_pos hw]
  refine ⟨v, fun w hC => ?_, hK _ h⟩
  unfold Oper.quietAt
  rw [hv w hC]
  exact ⟨rfl, rfl⟩
theorem wpQ_call {v : Value} {f : FuncId} {args : Array Value} (hw : Region.wanted o (yielded ops a.tmps) = true) (he : ∀ w, (execOp a.eval o).run P w = .ok (.enter f args) w)
  (hc : ∀ w, C w → Calls P f args w fun e w' => e = .returned v ∧ C w')
  (h : wpQuiet P ops C Q rest (a.put o.dst v)) : wpQuiet P ops C Q (o :: rest) a :=
 wpQuiet_step fun K hK => by
  rw [if_pos hw]
  refine ⟨v, fun w hC => ?_, hK _ h⟩
  unfold Oper.quietAt
  rw [he w]
  exact ⟨rfl, hc w hC⟩
theorem wpQ_skip (hw : Region.wanted o (yielded ops a.tmps) = false) (h : wpQuiet P ops C Q rest (a.put o.dst undef)) : wpQuiet P ops C Q (o :: rest) a :=
 wpQuiet_step fun K hK => by rw [if_neg (by rw [hw]; exact Bool.false_ne_true)]; exact hK _ h
theorem wp_region_Q {id : Nat} {Q : Exit → Act → World → Prop} {a : Act} {w : World} {l : List Oper} (C : World → Prop) (hm : P.follows .mixedOrders = true) (hB : Region.lexB .any l.toArray = true) (hC : C w.drew)
  (h : wpQuiet P l.toArray C (fun a' => ∀ w', C w' → Q .normal a' w') l a) : (Code.region id l.toArray true).wp P Q a w :=
 wp_region_quiet (C := C) hm hB hC (by simpa using h)
end
end Go.Proofs.YtjedgdamommgeaaGreat
namespace Go.Proofs.YtjedgdamommgeaaGreat
open Go.RowKit
open Tr
section
variable {w : World} {g : Tag} {b : Nat} {V : TrV} {T : Trail}
theorem enter_reason1 : ∀ args w, (callFunc 146 args).run Tryz.prog w = .ok (.enter 146 args) w := enters_of Tryz.func146 (by kernel_rfl) rfl
set_option maxRecDepth 100000 in
set_option maxHeartbeats 1600000 in
theorem reason1_any (H : TrAt w g b V T) (o : Ok T) (bl bt : Nat) (l : Int) (hl : InI64 l) (hbl : w.cell? ⟨bl, 0, none⟩ = some (cI l)) (hbt : w.cell? ⟨bt, 0, none⟩ = some (.pointer (some ⟨b, 0, none⟩))) (x : Int) (hx : InI64 x) :
  Calls Tryz.prog 146 #[.int .i64 x, .pointer (some ⟨bl, 0, none⟩), .pointer (some ⟨bt, 0, none⟩)] w fun e w' => e = .returned (.bool (T.rsP l x)) ∧ Only (fun _ => False) w w' := by
 obtain ⟨ax, hax⟩ : ∃ a, Cnf.absW x = a := ⟨_, rfl⟩
 obtain ⟨al, hal⟩ : ∃ a, Cnf.absW l = a := ⟨_, rfl⟩
 have hS : ∀ W, Only (fun _ => False) w W → W.cell? ⟨bl, 0, none⟩ = some (cI l) ∧ W.cell? ⟨bt, 0, none⟩ = some (.pointer (some ⟨b, 0, none⟩)) := fun W oW => ⟨cell_keep hbl oW (fun f => f), cell_keep hbt oW (fun f => f)⟩
 have ha1 := fun W : World => learn_abs_any (w := W) x ax hax
 have ha2 := fun W : World => learn_abs_any (w := W) l al hal
 have HA1 := Lib.hid ha1
 have HA2 := Lib.hid ha2
 obtain ⟨q, hq⟩ : ∃ q, T.lvl x = q := ⟨_, rfl⟩
 have hlv : ∀ W, Only (fun _ => False) w W → Calls Tryz.prog 115 #[.pointer (some ⟨b, 0, none⟩), .int .i64 x] W fun e w' => e = .returned (.int .i64 q) ∧ Only (fun _ => False) w w' := fun W oW =>
  (learn_level_any (H.only0 oW) o x hx q hq).mono fun _ _ ⟨he, ho⟩ => ⟨he, oW.same ho⟩
 have HLv := Lib.hid hlv
 have hres : T.rsP l x = (ax == al || q == 0) := by unfold Trail.rsP; rw [hax, hal, hq]
 rw [hres]
 have HS := Lib.hid hS
 have o0 : Only (fun _ => False) w w.drew := (Only.refl _ _).drew
 clear hS ha1 ha2 hlv hres hax hal hq H o hbl hbt
 by_cases he : ax = al
 ·subst he
  go_enter Tryz.func146, Tryz.ntmps146
  go_wp2_with fail
  refine wp_region_Q (fun w' => Only (fun _ => False) w w') (by kernel_rfl) (by kernel_rfl) (by assumption) ?_
  refine wpQ_val (v := ?_) (by rfl) ?_ ?_
  rotate_left
  ·(intro w hSw; (try dsimp only at hSw); have hcc := HS.out w hSw; obtain ⟨hc1, hc2⟩ := hcc; go_simp <;> (try with_reducible rfl))
  try simp only [Act.put, zq4, zq5, zq6]
  refine wpQ_call (v := cI ax) (f := 114) (args := #[.int .i64 x]) (by rfl) ?_ ?_ ?_
  ·(intro w; go_simp <;> (try with_reducible rfl))
  ·(intro w hSw; exact (HA1.out w).mono fun _ _ ⟨he, hw⟩ => ⟨he, by rw [← hw]; exact hSw⟩)
  try simp only [Act.put, zq4, zq5, zq6]
  refine wpQ_val (v := ?_) (by rfl) ?_ ?_
  rotate_left
  ·(intro w hSw; (try dsimp only at hSw); have hcc := HS.out w hSw; obtain ⟨hc1, hc2⟩ := hcc; go_simp <;> (try with_reducible rfl))
  try simp only [Act.put, zq4, zq5, zq6]
  refine wpQ_call (v := cI ax) (f := 114) (args := #[.int .i64 l]) (by rfl) ?_ ?_ ?_
  ·(intro w; go_simp <;> (try with_reducible rfl))
  ·(intro w hSw; exact (HA2.out w).mono fun _ _ ⟨he, hw⟩ => ⟨he, by rw [← hw]; exact hSw⟩)
  try simp only [Act.put, zq4, zq5, zq6]
  refine wpQ_val (v := ?_) (by rfl) ?_ ?_
  rotate_left
  ·(intro w hSw; (try dsimp only at hSw); have hcc := HS.out w hSw; obtain ⟨hc1, hc2⟩ := hcc; go_simp <;> (try with_reducible rfl))
  try simp only [Act.put, zq4, zq5, zq6]
  refine wpQ_val (v := ?_) (by rfl) ?_ ?_
  rotate_left
  ·(intro w hSw; (try dsimp only at hSw); have hcc := HS.out w hSw; obtain ⟨hc1, hc2⟩ := hcc; go_simp <;> (try with_reducible rfl))
  try simp only [Act.put, zq4, zq5, zq6]
  refine wpQ_skip (by rfl) ?_
  try simp only [Act.put, zq4, zq5, zq6]
  refine wpQ_skip (by rfl) ?_
  try simp only [Act.put, zq4, zq5, zq6]
  refine wpQ_skip (by rfl) ?_
  try simp only [Act.put, zq4, zq5, zq6]
  refine wpQ_skip (by rfl) ?_
  try simp only [Act.put, zq4, zq5, zq6]
  refine wpQ_val (v := ?_) (by rfl) ?_ ?_
  rotate_left
  ·(intro w hSw; (try dsimp only at hSw); have hcc := HS.out w hSw; obtain ⟨hc1, hc2⟩ := hcc; go_simp <;> (try with_reducible rfl))
  try simp only [Act.put, zq4, zq5, zq6]
  refine wpQ_val (v := ?_) (by rfl) ?_ ?_
  rotate_left
  ·(intro w hSw; (try dsimp only at hSw); have hcc := HS.out w hSw; obtain ⟨hc1, hc2⟩ := hcc; go_simp <;> (try with_reducible rfl))
  try simp only [Act.put, zq4, zq5, zq6]
  refine wpQuiet_nil ?_
  intro w1 O1
  go_wp2_with fail
  go_ret
  exact ⟨by first | (simp; done) | (rw [d1]; rfl) | simp [d1], O1⟩
 ·have d1 : (ax == al) = false := by rw [beq_eq_false_iff_ne]; exact he
  go_enter Tryz.func146, Tryz.ntmps146
  go_wp2_with fail
  refine wp_region_Q (fun w' => Only (fun _ => False) w w') (by kernel_rfl) (by kernel_rfl) (by assumption) ?_
  refine wpQ_val (v := ?_) (by rfl) ?_ ?_
  rotate_left
  ·(intro w hSw; (try dsimp only at hSw); have hcc := HS.out w hSw; obtain ⟨hc1, hc2⟩ := hcc; go_simp <;> (try with_reducible rfl))
  try simp only [Act.put, zq4, zq5, zq6]
  refine wpQ_call (v := cI ax) (f := 114) (args := #[.int .i64 x]) (by rfl) ?_ ?_ ?_
  ·(intro w; go_simp <;> (try with_reducible rfl))
  ·(intro w hSw; exact (HA1.out w).mono fun _ _ ⟨he, hw⟩ => ⟨he, by rw [← hw]; exact hSw⟩)
  try simp only [Act.put, zq4, zq5, zq6]
  refine wpQ_val (v := ?_) (by rfl) ?_ ?_
  rotate_left
  ·(intro w hSw; (try dsimp only at hSw); have hcc := HS.out w hSw; obtain ⟨hc1, hc2⟩ := hcc; go_simp <;> (try with_reducible rfl))
  try simp only [Act.put, zq4, zq5, zq6]
  refine wpQ_call (v := cI al) (f := 114) (args := #[.int .i64 l]) (by rfl) ?_ ?_ ?_
  ·(intro w; go_simp <;> (try with_reducible rfl))
  ·(intro w hSw; exact (HA2.out w).mono fun _ _ ⟨he, hw⟩ => ⟨he, by rw [← hw]; exact hSw⟩)
  try simp only [Act.put, zq4, zq5, zq6]
  refine wpQ_val (v := ?_) (by rfl) ?_ ?_
  rotate_left
  ·(intro w hSw; (try dsimp only at hSw); have hcc := HS.out w hSw; obtain ⟨hc1, hc2⟩ := hcc; go_simp <;> (try with_reducible rfl))
  try simp only [Act.put, zq4, zq5, zq6]
  refine wpQ_val (v := ?_) (by rfl) ?_ ?_
  rotate_left
  ·(intro w hSw; (try dsimp only at hSw); have hcc := HS.out w hSw; obtain ⟨hc1, hc2⟩ := hcc; go_simp <;> (try with_reducible rfl))
  try simp only [Act.put, zq4, zq5, zq6]
  refine wpQ_val (v := ?_) (by rfl) ?_ ?_
  rotate_left
  ·(intro w hSw; (try dsimp only at hSw); have hcc := HS.out w hSw; obtain ⟨hc1, hc2⟩ := hcc; go_simp <;> (try with_reducible rfl))
  try simp only [Act.put, zq4, zq5, zq6]
  refine wpQ_val (v := ?_) (by rfl) ?_ ?_
  rotate_left
  ·(intro w hSw; (try dsimp only at hSw); have hcc := HS.out w hSw; obtain ⟨hc1, hc2⟩ := hcc; go_simp <;> (try with_reducible rfl))
  try simp only [Act.put, zq4, zq5, zq6]
  refine wpQ_call (v := cI q) (f := 115) (args := #[.pointer (some ⟨b, 0, none⟩), .int .i64 x]) (by rfl) ?_ ?_ ?_
  ·(intro w; go_simp <;> (try with_reducible rfl))
  ·(intro w hSw; exact HLv.out w hSw)
  try simp only [Act.put, zq4, zq5, zq6]
  refine wpQ_val (v := ?_) (by rfl) ?_ ?_
  rotate_left
  ·(intro w hSw; (try dsimp only at hSw); have hcc := HS.out w hSw; obtain ⟨hc1, hc2⟩ := hcc; go_simp <;> (try with_reducible rfl))
  try simp only [Act.put, zq4, zq5, zq6]
  refine wpQ_val (v := ?_) (by rfl) ?_ ?_
  rotate_left
  ·(intro w hSw; (try dsimp only at hSw); have hcc := HS.out w hSw; obtain ⟨hc1, hc2⟩ := hcc; go_simp <;> (try with_reducible rfl))
  try simp only [Act.put, zq4, zq5, zq6]
  refine wpQ_val (v := ?_) (by rfl) ?_ ?_
  rotate_left
  ·(intro w hSw; (try dsimp only at hSw); have hcc := HS.out w hSw; obtain ⟨hc1, hc2⟩ := hcc; go_simp <;> (try with_reducible rfl))
  try simp only [Act.put, zq4, zq5, zq6]
  refine wpQuiet_nil ?_
  intro w1 O1
  go_wp2_with fail
  go_ret
  exact ⟨by first | (simp; done) | (rw [d1]; rfl) | simp [d1], O1⟩
def ReaTo (w : World) (r : Option (List Int)) (e : Ending) (w' : World) : Prop :=
 match r with
 | none => e = .returned (.tuple #[nilS, .bool false]) ∧ Only (fun _ => False) w w'
 | some c => ∃ ao cap, e = .returned (.tuple #[.slice ao c.length cap, .bool true]) ∧ w'.ownsRow 0 3 1 (.slice ao c.length cap) c.length (c.map cI) ∧ (∀ k, Value.ownBlock (.slice ao c.length cap) = some k → w.heap.size ≤ k) ∧ Only (fun _ => False) w w'
theorem Tr.Ok.why_lt {T : Trail} (o : Ok T) (l : Int) : -1 ≤ T.why l ∧ T.why l < 2147483648 := by
 unfold Trail.why Trail.at
 split
 ·unfold atomOf
  split
  ·rename_i x hx
   have hm := List.mem_of_find?_eq_some hx
   have := o.rea x hm
   exact ⟨this.1, this.2.1⟩
  ·simp
 ·simp
set_option maxRecDepth 100000 in
set_option maxHeartbeats 3200000 in
theorem reason_any (H : TrAt w g b V T) (o : Ok T) (l : Int) (hl : InI64 l) : Calls Tryz.prog 116 #[.pointer (some ⟨b, 0, none⟩), .int .i64 l] w (ReaTo w (T.reasonL l)) := by
 obtain ⟨a, ha⟩ : ∃ a, Cnf.absW l = a := ⟨_, rfl⟩
 obtain ⟨p1, r, hp⟩ : ∃ p1 r, T.at a = (p1, r) := ⟨_, _, rfl⟩
 have hr : T.why l = r := by unfold Trail.why; rw [ha, hp]
 have hrr := o.why_lt l
 rw [hr] at hrr
 obtain ⟨w1, hw1⟩ : ∃ w1, (w.alloc (.cells #[.pointer (some ⟨b, 0, none⟩)] 57)).alloc (.cells #[.int .i64 l] 3) = w1 := ⟨_, rfl⟩
 obtain ⟨bt, hbt⟩ : ∃ bt, w.heap.size = bt := ⟨_, rfl⟩
 have o1 : Only (fun _ => False) w w1 := by rw [← hw1]; exact ((Only.refl _ _).alloc _).alloc _
 have h1 : w1.cell? ⟨bt, 0, none⟩ = some (.pointer (some ⟨b, 0, none⟩)) := by
  rw [← hw1, ← hbt]; exact cell_keep (cell_newE _ _ _ _ rfl) ((Only.refl (fun _ => False) _).alloc _) (fun f => f)
 have h2 : w1.cell? ⟨bt + 1, 0, none⟩ = some (cI l) := by
  rw [← hw1, ← hbt]; exact cell_newE _ _ _ _ (by simp)
 have hC : ∀ W, Only (fun _ => False) w1 W → W.cell? ⟨bt, 0, none⟩ = some (.pointer (some ⟨b, 0, none⟩)) ∧ W.cell? ⟨bt + 1, 0, none⟩ = some (cI l) := fun W oW => ⟨cell_keep h1 oW (fun f => f), cell_keep h2 oW (fun f => f)⟩
 have hat : ∀ W, Only (fun _ => False) w1 W → Calls Tryz.prog 81 #[.pointer (some ⟨b, 0, none⟩), .int .i64 a] W fun e w' => e = .returned (.tuple #[.int .i64 p1, .int .i64 r]) ∧ Only (fun _ => False) w1 w' := fun W oW =>
  (prop_At_any ((H.only0 o1).only0 oW) o a (by rw [← ha]; exact absW_in hl) _ hp).mono fun _ _ ⟨he, ho⟩ => ⟨he, oW.same ho⟩
 have hab := fun W : World => learn_abs_any (w := W) l a ha
 have hcl : ∀ W, Only (fun _ => False) w1 W → Calls Tryz.prog 80 #[.pointer (some ⟨b, 0, none⟩), .int .i64 r] W (ClaTo W (T.clauseL r)) := fun W oW => prop_Clause_any ((H.only0 o1).only0 oW) o r
 have hpr : ∀ W, Only (fun _ => False) w1 W → ∀ x, InI64 x → Calls Tryz.prog 146 #[.int .i64 x, .pointer (some ⟨bt + 1, 0, none⟩), .pointer (some ⟨bt, 0, none⟩)] W fun e w' => e = .returned (.bool (T.rsP l x)) ∧ Only (fun _ => False) W w' := fun W oW x hx =>
  reason1_any ((H.only0 o1).only0 oW) o (bt + 1) bt l hl (hC W oW).2 (hC W oW).1 x hx
 have hrl : T.reasonL l = if r < 0 then none else (T.clauseL r).map fun c => c.filter fun x => !T.rsP l x := by unfold Trail.reasonL; rw [hr]
 have hgood : ∀ c, T.clauseL r = some c → (∀ x ∈ c, InI64 x) ∧ c.length ≤ 65536 := by
  intro c hc
  unfold Trail.clauseL at hc
  split at hc
  ·rename_i hth
   obtain rfl := Option.some.inj hc
   unfold Trail.there at hth
   simp only [Bool.and_eq_true, decide_eq_true_eq] at hth
   have hg := o.cl (k := r.toNat) (by omega)
   have hn := o.n
   have := hg.len
   have := formL_len (T.cl r.toNat)
   exact ⟨fun x hx => by have := hg.lit x ((Cnf.mem_formL _ x).1 hx); unfold InI64; omega, by omega⟩
  ·cases hc
 have HAb := Lib.hid hab
 have HAt := Lib.hid hat
 have HCl := Lib.hid hcl
 have HPr := Lib.hid hpr
 have HRl := Lib.hid hrl
 have HGd := Lib.hid hgood
 have HC := Lib.hid hC
 have HO1 := Lib.hid o1
 have o0 : Only (fun _ => False) w1 w1.drew := (Only.refl _ _).drew
 have heqn := slNe
 have hmf : ∀ (fn : Fn) (first cap : Array Value) (w : World), (Instr.makeFunc fn first cap).run Tryz.prog w = .ok (.func fn first cap) w := fun _ _ _ _ => rfl
 clear hab hat hcl hpr hrl hgood hC o1 h1 h2 ha hp hr H o
 go_enter Tryz.func116, Tryz.ntmps116
 go_wp2_with fail
 refine wp_region_Q (fun w' => Only (fun _ => False) w1 w') (by kernel_rfl) (by kernel_rfl) (by assumption) ?_
 refine wpQ_val (v := ?_) (by rfl) ?_ ?_
 rotate_left
 ·(intro w hSw; (try dsimp only at hSw); have hcc := HC.out w hSw; obtain ⟨hc1, hc2⟩ := hcc; go_simp <;> (try with_reducible rfl))
 try simp only [Act.put, zq4, zq5, zq6]
 refine wpQ_val (v := ?_) (by rfl) ?_ ?_
 rotate_left
 ·(intro w hSw; (try dsimp only at hSw); have hcc := HC.out w hSw; obtain ⟨hc1, hc2⟩ := hcc; go_simp <;> (try with_reducible rfl))
 try simp only [Act.put, zq4, zq5, zq6]
 refine wpQ_call (v := cI a) (f := 114) (args := #[.int .i64 l]) (by rfl) ?_ ?_ ?_
 ·(intro w; go_simp <;> (try with_reducible rfl))
 ·(intro w hSw; exact (HAb.out w).mono fun _ _ ⟨he, hw⟩ => ⟨he, by rw [← hw]; exact hSw⟩)
 try simp only [Act.put, zq4, zq5, zq6]
 refine wpQ_call (v := .tuple #[.int .i64 p1, .int .i64 r]) (f := 81) (args := #[.pointer (some ⟨b, 0, none⟩), .int .i64 a]) (by rfl) ?_ ?_ ?_
 ·(intro w; go_simp <;> (try with_reducible rfl))
 ·(intro w hSw; exact HAt.out w hSw)
 try simp only [Act.put, zq4, zq5, zq6]
 refine wpQ_val (v := ?_) (by rfl) ?_ ?_
 rotate_left
 ·(intro w hSw; (try dsimp only at hSw); have hcc := HC.out w hSw; obtain ⟨hc1, hc2⟩ := hcc; go_simp <;> (try with_reducible rfl))
 try simp only [Act.put, zq4, zq5, zq6]
 refine wpQ_val (v := ?_) (by rfl) ?_ ?_
 rotate_left
 ·(intro w hSw; (try dsimp only at hSw); have hcc := HC.out w hSw; obtain ⟨hc1, hc2⟩ := hcc; go_simp <;> (try with_reducible rfl))
 try simp only [Act.put, zq4, zq5, zq6]
 refine wpQ_val (v := ?_) (by rfl) ?_ ?_
 rotate_left
 ·(intro w hSw; (try dsimp only at hSw); have hcc := HC.out w hSw; obtain ⟨hc1, hc2⟩ := hcc; go_simp <;> (try with_reducible rfl))
 try simp only [Act.put, zq4, zq5, zq6]
 refine wpQ_val (v := ?_) (by rfl) ?_ ?_
 rotate_left
 ·(intro w hSw; (try dsimp only at hSw); have hcc := HC.out w hSw; obtain ⟨hc1, hc2⟩ := hcc; go_simp <;> (try with_reducible rfl))
 try simp only [Act.put, zq4, zq5, zq6]
 refine wpQ_val (v := ?_) (by rfl) ?_ ?_
 rotate_left
 ·(intro w hSw; (try dsimp only at hSw); have hcc := HC.out w hSw; obtain ⟨hc1, hc2⟩ := hcc; go_simp <;> (try with_reducible rfl))
 try simp only [Act.put, zq4, zq5, zq6]
 refine wpQuiet_nil ?_
 intro w2 O2
 have hcc2 := HC.out w2 O2
 obtain ⟨e1, e2⟩ := hcc2
 by_cases hr0 : r < 0
 ·have hres : T.reasonL l = none := by rw [HRl.out, if_pos hr0]
  have HRes := Lib.hid hres
  have hfin := HO1.out.same O2
  clear hres
  go_wp2_with fail
  go_ret2
  rw [HRes.out]
  exact ⟨rfl, hfin⟩
 ·have hrl := HRl.out
  rw [if_neg hr0] at hrl
  have HRl2 := Lib.hid hrl
  have hcl := HCl.out w2 O2
  have HCl2 := Lib.hid hcl
  have d0 : decide (r < 0) = false := decide_eq_false hr0
  clear hrl hcl HRl HCl
  go_wp2_with fail
  refine HCl2.out.mono ?_
  intro e w3 hq
  unfold ClaTo at hq
  cases hc : T.clauseL r with
  | none =>
   rw [hc] at hq
   obtain ⟨rfl, rfl⟩ := hq
   have hres : T.reasonL l = none := by rw [HRl2.out, hc]; rfl
   have HRes := Lib.hid hres
   have hdel := DeleteFunc_own (w := w2) (v := nilS) (xs := []) (World.ownsRow_nil _ _ _ _) (fun x hx => by cases hx) (by simp) 146 #[.pointer (some ⟨bt + 1, 0, none⟩), .pointer (some ⟨bt, 0, none⟩)] (fun x => T.rsP l x) enter_reason1 (fun x hx => by cases hx)
   have HDel := Lib.hid hdel
   have HO2 := Lib.hid (HO1.out.same O2)
   clear hdel hres hc HCl2 O2
   go_wp2_with fail
   refine HDel.out.mono ?_
   rintro e w4 ⟨ao, cap, rfl, r4, o4, b4⟩
   have hcap : ao = none ∧ cap = 0 := by
    cases ao with
    | none => exact ⟨rfl, (own_nil r4).2⟩
    | some ad =>
     rcases r4.2 with ⟨h', _⟩ | ⟨g', cap', cur, h', _⟩
     ·simp at h'
     ·rw [h'] at b4; simp [Value.ownBlock] at b4
   obtain ⟨rfl, rfl⟩ := hcap
   have hfin := HO2.out.same (o4.mono fun k hk => by simp [Value.ownBlock] at hk)
   clear r4 b4 o4
   go_wp2_with fail
   go_ret2
   rw [HRes.out]
   exact ⟨rfl, hfin⟩
  | some c =>
   rw [hc] at hq
   obtain ⟨ao, cap, rfl, r3, n3, o3⟩ := hq
   obtain ⟨hgr, hgl⟩ := HGd.out c hc
   have hres : T.reasonL l = some (keepF (fun x => T.rsP l x) c) := by rw [HRl2.out, hc]; rfl
   have HRes := Lib.hid hres
   have O3 := O2.same o3
   have hnn : ∀ k, Value.ownBlock (.slice (some ao) c.length cap) = some k → w1.heap.size ≤ k := fun k hk => by have := n3 k hk; have := O2.size; omega
   have hdel := DeleteFunc_own r3 hgr (by omega) 146 #[.pointer (some ⟨bt + 1, 0, none⟩), .pointer (some ⟨bt, 0, none⟩)] (fun x => T.rsP l x) enter_reason1 (fun x hx W oW => HPr.out W (O3.trans oW fun k hk => .inr (hnn k hk)) x (hgr x hx))
   have HDel := Lib.hid hdel
   have HO3 := Lib.hid (HO1.out.same O3)
   have HNn := Lib.hid hnn
   clear hdel hres hc HCl2 O2 O3 r3 n3 o3 hnn
   go_wp2_with fail
   refine HDel.out.mono ?_
   rintro e w4 ⟨ao2, cap2, rfl, r4, o4, b4⟩
   have hfin : ReaTo w (some (keepF (fun x => T.rsP l x) c)) (.returned (.tuple #[.slice ao2 (keepF (fun x => T.rsP l x) c).length cap2, .bool true])) w4 :=
    ⟨ao2, cap2, rfl, r4, fun k hk => by have := HNn.out k (by rw [← b4]; exact hk); have := HO1.out.size; omega, HO3.out.trans o4 fun k hk => .inr (by have := HNn.out k hk; have := HO1.out.size; omega)⟩
   have HFin := Lib.hid hfin
   clear r4 b4 o4 hfin
   generalize keepF (fun x => T.rsP l x) c = cc at *
   go_wp2_with fail
   go_ret2
   rw [HRes.out]
   exact HFin.out
end
structure StAt (w : World) (bs bi bm b : Nat) (top : Int) (s : Stu) : Prop where
 blk : w.heap[bs]? = some (.cells #[.pointer (some ⟨b, 0, none⟩), cI top, .map (some bi), cI s.many, .map (some bm)] 143 (0, 0))
 in_ : IMap w bi s.ks s.f
 met : IMap w bm s.ms s.mf
 ne : bi ≠ bm
def StF (bs bi bm : Nat) : Nat → Prop := fun k => k = bs ∨ k = bi ∨ k = bm
section
variable {w w' : World} {bs bi bm b : Nat} {top : Int} {s : Stu}
theorem StAt.c0 (h : StAt w bs bi bm b top s) : w.cell? ⟨bs, 0, none⟩ = some (.pointer (some ⟨b, 0, none⟩)) := by rw [cell_block h.blk]; rfl
theorem StAt.c1 (h : StAt w bs bi bm b top s) : w.cell? ⟨bs, 1, none⟩ = some (cI top) := by rw [cell_block h.blk]; rfl
theorem StAt.c2 (h : StAt w bs bi bm b top s) : w.cell? ⟨bs, 2, none⟩ = some (.map (some bi)) := by rw [cell_block h.blk]; rfl
theorem StAt.c3 (h : StAt w bs bi bm b top s) : w.cell? ⟨bs, 3, none⟩ = some (cI s.many) := by rw [cell_block h.blk]; rfl
theorem StAt.c4 (h : StAt w bs bi bm b top s) : w.cell? ⟨bs, 4, none⟩ = some (.map (some bm)) := by rw [cell_block h.blk]; rfl
theorem StAt.free (h : StAt w bs bi bm b top s) (i : Nat) : w.frozen? ⟨bs, i, none⟩ = false := free_block h.blk i
theorem StAt.only0 (h : StAt w bs bi bm b top s) (ho : Only (fun _ => False) w w') : StAt w' bs bi bm b top s :=
 ⟨only_block h.blk ho (fun f => f), h.in_.only0 ho, h.met.only0 ho, h.ne⟩
theorem IMap.notCells {bs : Nat} {ks : List Int} {f : Int → Int} {c : Array Value} {t : TypeId} {z : Nat × Nat} (h : IMap w bi ks f) (hb : w.heap[bs]? = some (.cells c t z)) : bs ≠ bi := by
 rintro rfl
 obtain ⟨D, ⟨es, clock, hm, _⟩, _⟩ := h.own
 rw [hb] at hm
 cases hm
theorem StAt.putIn (h : StAt w bs bi bm b top s) {a x : Int} (ha : InI64 a) (hx : InI64 x) (hl : s.ks.length < maxLen) :
  ∀ W, Only (fun _ => False) w W → ∃ w6, (Instr.mapUpdate 138 (.map (some bi)) (cI a) (cI x)).run Tryz.prog W = .ok () w6 ∧ StAt w6 bs bi bm b top { s with ks := addK s.ks a, f := upd s.f a x } ∧ Only (StF bs bi bm) w w6 := by
 intro W oW
 have h0 := h.only0 oW
 obtain ⟨w6, hr, hI, ho⟩ := h0.in_.store ha hx hl
 have hne := h0.in_.notCells h0.blk
 refine ⟨w6, hr, ⟨only_block h0.blk ho hne, hI, h0.met.only ho (fun e => h.ne e.symm), h.ne⟩, (oW.mono fun _ f => f.elim).same (ho.mono fun k hk => .inr (.inl hk))⟩
theorem StAt.putMet (h : StAt w bs bi bm b top s) {a x : Int} (ha : InI64 a) (hx : InI64 x) (hl : s.ms.length < maxLen) :
  ∀ W, Only (fun _ => False) w W → ∃ w6, (Instr.mapUpdate 138 (.map (some bm)) (cI a) (cI x)).run Tryz.prog W = .ok () w6 ∧ StAt w6 bs bi bm b top { s with ms := addK s.ms a, mf := upd s.mf a x } ∧ Only (StF bs bi bm) w w6 := by
 intro W oW
 have h0 := h.only0 oW
 obtain ⟨w6, hr, hI, ho⟩ := h0.met.store ha hx hl
 have hne := h0.met.notCells h0.blk
 refine ⟨w6, hr, ⟨only_block h0.blk ho hne, h0.in_.only ho h.ne, hI, h.ne⟩, (oW.mono fun _ f => f.elim).same (ho.mono fun k hk => .inr (.inr hk))⟩
theorem StAt.setMany (h : StAt w bs bi bm b top s) (m : Int) : StAt (w.setCell ⟨bs, 3, none⟩ (cI m)) bs bi bm b top { s with many := m } ∧ Only (StF bs bi bm) w (w.setCell ⟨bs, 3, none⟩ (cI m)) := by
 have ho : Only (fun k => k = bs) w (w.setCell ⟨bs, 3, none⟩ (cI m)) := Only.setCell (Only.refl (fun k => k = bs) w) (p := ⟨bs, 3, none⟩) (.inl rfl) _
 exact ⟨⟨by rw [set_block h.blk]; rfl, h.in_.only ho (fun e => h.in_.notCells h.blk e.symm), h.met.only ho (fun e => h.met.notCells h.blk e.symm), h.ne⟩, ho.mono fun k hk => .inl hk⟩
theorem StAt.dropIn (h : StAt w bs bi bm b top s) {a : Int} (ha : InI64 a) (ty : TypeId) :
  ∀ W, Only (fun _ => False) w W → ∃ w6, (Builtin.delete_ #[138, 3] ty #[.map (some bi), cI a]).run Tryz.prog W = .ok (.tuple #[]) w6 ∧ StAt w6 bs bi bm b top { s with ks := s.ks.erase a, f := upd s.f a 0 } ∧ Only (StF bs bi bm) w w6 := by
 intro W oW
 have h0 := h.only0 oW
 obtain ⟨w6, hr, hI, ho⟩ := h0.in_.drop ha ty
 have hne := h0.in_.notCells h0.blk
 refine ⟨w6, hr, ⟨only_block h0.blk ho hne, hI, h0.met.only ho (fun e => h.ne e.symm), h.ne⟩, (oW.mono fun _ f => f.elim).same (ho.mono fun k hk => .inr (.inl hk))⟩
end
theorem addK_len (ks : List Int) (x : Int) : (addK ks x).length ≤ ks.length + 1 := by unfold addK; split <;> simp
theorem w64_in (x : Int) : InI64 (w64 x) := by unfold w64 InI64; rw [IntKind.wrap_i64]; omega
theorem take1_len (T : Trail) (top : Int) (s : Stu) (x : Int) : (T.take1 top s x).ks.length ≤ s.ks.length + 1 ∧ (T.take1 top s x).ms.length ≤ s.ms.length + 1 := by
 unfold Trail.take1
 split
 ·exact ⟨Nat.le_succ _, Nat.le_succ _⟩
 ·exact ⟨addK_len _ _, addK_len _ _⟩
theorem takes_snoc (T : Trail) (top : Int) (s : Stu) (l : List Int) (x : Int) : T.takes top s (l ++ [x]) = T.take1 top (T.takes top s l) x := by
 unfold Trail.takes; rw [List.foldl_append]; rfl
theorem takes_len (T : Trail) (top : Int) (s : Stu) : ∀ (k : Nat) (l : List Int), (T.takes top s (l.take k)).ks.length ≤ s.ks.length + k ∧ (T.takes top s (l.take k)).ms.length ≤ s.ms.length + k
 | 0, l => by simp [Trail.takes]
 | k + 1, l => by
  by_cases hk : k < l.length
  ·rw [take_snocI l k hk, takes_snoc]
   have h1 := takes_len T top s k l
   have h2 := take1_len T top (T.takes top s (l.take k)) (l.getD k 0)
   omega
  ·have h1 := takes_len T top s k l
   rw [List.take_of_length_le (by omega)] at h1 ⊢
   omega
section
variable {w : World} {g : Tag} {b : Nat} {V : TrV} {T : Trail} {bs bi bm : Nat} {top : Int} {s : Stu}
def Off (g : Tag) (bs bi bm : Nat) : Prop := (g bs).1 = 0 ∧ (g bi).1 = 0 ∧ (g bm).1 = 0
theorem TrAt.off {w' : World} (H : TrAt w g b V T) (hf : Off g bs bi bm) (ho : Only (StF bs bi bm) w w') : TrAt w' g b V T :=
 H.only ho fun k hk h => by
  rcases h with rfl | rfl | rfl
  ·exact hk hf.1
  ·exact hk hf.2.1
  ·exact hk hf.2.2
structure TkAt (w : World) (bs bi bm b : Nat) (T : Trail) (top : Int) (s : Stu) (wr : World) : Prop where
 st : StAt wr bs bi bm b top s
 on : Only (StF bs bi bm) w wr
set_option maxRecDepth 100000 in
set_option maxHeartbeats 3200000 in
theorem takes_any (H : TrAt w g b V T) (o : Ok T) (hf : Off g bs bi bm) (hS : StAt w bs bi bm b top s) {v : Value} {l : List Int} (hI : Ints w v l) (hN : 0 < l.length → ∀ k, Value.blk v = some k → ¬ StF bs bi bm k) (hlen : l.length ≤ 1099511627776) (hk : s.ks.length ≤ 1099511627776) (hm : s.ms.length ≤ 1099511627776) :
  Calls Tryz.prog 119 #[.pointer (some ⟨bs, 0, none⟩), v] w fun e w' => e = .returned (.tuple #[]) ∧ StAt w' bs bi bm b top (T.takes top s l) ∧ Only (StF bs bi bm) w w' := by
 obtain ⟨ai, ci, rfl, -, -⟩ := hI.shape
 have hst : TkAt w bs bi bm b T top (T.takes top s (l.take 0)) w := ⟨hS, Only.refl _ _⟩
 have HSt := Lib.hid hst
 have HH := Lib.hid H
 have HOk := Lib.hid o
 have HI := Lib.hid hI
 have HN := Lib.hid hN
 clear hst H o hI hN hS
 go_enter Tryz.func119, Tryz.ntmps119
 go_wp2_with fail
 go_loopw [9] (fun v wr => ∃ j : Nat, v = .int .i64 j ∧ j ≤ l.length ∧ TkAt w bs bi bm b T top (T.takes top s (l.take j)) wr) (fun v _ => l.length - (intOf v).toNat)
 case atStart => exact ⟨0, rfl, Nat.zero_le _, HSt.out⟩
 case round =>
  clear HSt
  obtain ⟨j, rfl, hj, hT⟩ := hrel
  have HT := Lib.hid hT
  clear hT
  by_cases cj : j < l.length
  ·have hIw := HI.out.only' HT.out.on (fun hp k hk => HN.out hp k hk)
   obtain ⟨bl, ol, rfl, _, hcs⟩ := hIw.cells _ _ _ rfl (by omega)
   have qx := hcs j cj
   have hx := HI.out.range' j
   have hsn := takes_snoc T top s (l.take j) (l.getD j 0)
   rw [← take_snocI l j cj] at hsn
   have hln := takes_len T top s j l
   obtain ⟨x, hxe⟩ : ∃ x, l.getD j 0 = x := ⟨_, rfl⟩
   rw [hxe] at qx hx hsn
   obtain ⟨s1, hs1⟩ : ∃ s1, T.takes top s (l.take j) = s1 := ⟨_, rfl⟩
   rw [hs1] at HT hsn hln
   obtain ⟨a, ha⟩ : ∃ a, Cnf.absW x = a := ⟨_, rfl⟩
   obtain ⟨q, hq⟩ : ∃ q, T.lvl x = q := ⟨_, rfl⟩
   have hai : InI64 a := by rw [← ha]; exact absW_in hx
   have c0 := HT.out.st.c0
   have hlv := learn_level_any (HH.out.off hf HT.out.on) HOk.out x hx q hq
   have HLv := Lib.hid hlv
   have hab := fun W : World => learn_abs_any (w := W) x a ha
   have HAb := Lib.hid hab
   have HSn := Lib.hid hsn
   have HA := Lib.hid ha
   have HQ := Lib.hid hq
   have ewj : IntKind.i64.wrap ((j : Int) + 1) = ((j + 1 : Nat) : Int) := by rw [IntWalk.i64_in _ (by omega)]; rfl
   clear hcs hxe hs1 hlv hab hsn ha hq hIw
   go_wp2_with fail
   refine HLv.out.mono ?_
   rintro e w1 ⟨rfl, O1⟩
   have hS1 := HT.out.st.only0 O1
   have HT1 : Hid (TkAt w bs bi bm b T top s1 w1) := Lib.hid ⟨hS1, HT.out.on.same (O1.mono fun _ f => f.elim)⟩
   have HS1 := Lib.hid hS1
   have hC : ∀ W, Only (fun _ => False) w1 W → W.cell? ⟨bs, 2, none⟩ = some (.map (some bi)) ∧ (Instr.lookup 138 (.map (some bi)) (cI a) false).run Tryz.prog W = .ok (cI (s1.f a)) W := fun W oW => ⟨(hS1.only0 oW).c2, (hS1.only0 oW).in_.look hai⟩
   have HC := Lib.hid hC
   have o0 : Only (fun _ => False) w1 w1.drew := (Only.refl _ _).drew
   clear hC c0 qx hS1
   by_cases hq0 : q = 0
   ·skip
    subst hq0
    have hnext : T.takes top s (l.take (j + 1)) = s1 := by rw [HSn.out]; unfold Trail.take1; rw [if_pos (.inl HQ.out)]
    have hfin : ∀ W, Only (fun _ => False) w1 W → TkAt w bs bi bm b T top (T.takes top s (l.take (j + 1))) W := fun W oW => by rw [hnext]; exact ⟨HT1.out.st.only0 oW, HT1.out.on.same (oW.mono fun _ f => f.elim)⟩
    have HFin := Lib.hid hfin
    clear hnext hfin
    go_wp2_with fail
    go_quiet (fail)
    have hz := HFin.out (w1.drewN nq) ((Only.refl _ _).drewN _)
    have HZ := Lib.hid hz
    clear hz
    go_wp2_with fail
    go_roundw
    case rel => exact ⟨j + 1, by first | rfl | go_num, by omega, HZ.out⟩
    case measure => simp [intOf]; omega
   ·have dq : (q == 0) = false := by rw [beq_eq_false_iff_ne]; exact hq0
    obtain ⟨y, hy⟩ : ∃ y, s1.f a = y := ⟨_, rfl⟩
    rw [hy] at HC
    by_cases hy0 : y = 0
    ·skip
     subst hy0
     have hnext : T.takes top s (l.take (j + 1)) = { ks := addK s1.ks a, f := upd s1.f a x, ms := addK s1.ms a, mf := upd s1.mf a (w64 (s1.mf a + 1)), many := if q = top then w64 (s1.many + 1) else s1.many } := by
      rw [HSn.out]; unfold Trail.take1; rw [if_neg (by rw [HQ.out, HA.out]; rintro (h | h); exact hq0 h; exact h hy), HA.out, HQ.out]
     have HNext := Lib.hid hnext
     clear hnext hy
     go_wp2_with fail
     refine wp_region_Q (fun w' => Only (fun _ => False) w1 w') (by kernel_rfl) (by kernel_rfl) (by assumption) ?_
     refine wpQ_val (v := ?_) (by rfl) ?_ ?_
     rotate_left
     ·(intro w hSw; (try dsimp only at hSw); have hcc := HC.out w hSw; obtain ⟨hc1, hc2⟩ := hcc; go_simp <;> (try with_reducible rfl))
     try simp only [Act.put, zq4, zq5, zq6]
     refine wpQ_val (v := ?_) (by rfl) ?_ ?_
     rotate_left
     ·(intro w hSw; (try dsimp only at hSw); have hcc := HC.out w hSw; obtain ⟨hc1, hc2⟩ := hcc; go_simp <;> (try with_reducible rfl))
     try simp only [Act.put, zq4, zq5, zq6]
     refine wpQ_val (v := ?_) (by rfl) ?_ ?_
     rotate_left
     ·(intro w hSw; (try dsimp only at hSw); have hcc := HC.out w hSw; obtain ⟨hc1, hc2⟩ := hcc; go_simp <;> (try with_reducible rfl))
     try simp only [Act.put, zq4, zq5, zq6]
     refine wpQ_val (v := ?_) (by rfl) ?_ ?_
     rotate_left
     ·(intro w hSw; (try dsimp only at hSw); have hcc := HC.out w hSw; obtain ⟨hc1, hc2⟩ := hcc; go_simp <;> (try with_reducible rfl))
     try simp only [Act.put, zq4, zq5, zq6]
     refine wpQ_val (v := ?_) (by rfl) ?_ ?_
     rotate_left
     ·(intro w hSw; (try dsimp only at hSw); have hcc := HC.out w hSw; obtain ⟨hc1, hc2⟩ := hcc; go_simp <;> (try with_reducible rfl))
     try simp only [Act.put, zq4, zq5, zq6]
     refine wpQ_val (v := ?_) (by rfl) ?_ ?_
     rotate_left
     ·(intro w hSw; (try dsimp only at hSw); have hcc := HC.out w hSw; obtain ⟨hc1, hc2⟩ := hcc; go_simp <;> (try with_reducible rfl))
     try simp only [Act.put, zq4, zq5, zq6]
     refine wpQ_val (v := ?_) (by rfl) ?_ ?_
     rotate_left
     ·(intro w hSw; (try dsimp only at hSw); have hcc := HC.out w hSw; obtain ⟨hc1, hc2⟩ := hcc; go_simp <;> (try with_reducible rfl))
     try simp only [Act.put, zq4, zq5, zq6]
     refine wpQ_val (v := ?_) (by rfl) ?_ ?_
     rotate_left
     ·(intro w hSw; (try dsimp only at hSw); have hcc := HC.out w hSw; obtain ⟨hc1, hc2⟩ := hcc; go_simp <;> (try with_reducible rfl))
     try simp only [Act.put, zq4, zq5, zq6]
     refine wpQ_call (v := cI a) (f := 114) (args := #[.int .i64 x]) (by rfl) ?_ ?_ ?_
     ·(intro w; go_simp <;> (try with_reducible rfl))
     ·(intro w hSw; exact (HAb.out w).mono fun _ _ ⟨he, hw⟩ => ⟨he, by rw [← hw]; exact hSw⟩)
     try simp only [Act.put, zq4, zq5, zq6]
     refine wpQ_val (v := ?_) (by rfl) ?_ ?_
     rotate_left
     ·(intro w hSw; (try dsimp only at hSw); have hcc := HC.out w hSw; obtain ⟨hc1, hc2⟩ := hcc; go_simp <;> (try with_reducible rfl))
     try simp only [Act.put, zq4, zq5, zq6]
     refine wpQ_val (v := ?_) (by rfl) ?_ ?_
     rotate_left
     ·(intro w hSw; (try dsimp only at hSw); have hcc := HC.out w hSw; obtain ⟨hc1, hc2⟩ := hcc; go_simp <;> (try with_reducible rfl))
     try simp only [Act.put, zq4, zq5, zq6]
     refine wpQ_val (v := ?_) (by rfl) ?_ ?_
     rotate_left
     ·(intro w hSw; (try dsimp only at hSw); have hcc := HC.out w hSw; obtain ⟨hc1, hc2⟩ := hcc; go_simp <;> (try with_reducible rfl))
     try simp only [Act.put, zq4, zq5, zq6]
     refine wpQuiet_nil ?_
     intro w2 O2
     have hS2 := HS1.out.only0 O2
     have HT2 : Hid (TkAt w bs bi bm b T top s1 w2) := Lib.hid ⟨hS2, HT1.out.on.same (O2.mono fun _ f => f.elim)⟩
     have hst5 := hS2.putIn hai hx (by unfold maxLen; omega)
     have HSt5 := Lib.hid hst5
     have hc0 : w2.drew.cell? ⟨bs, 2, none⟩ = some (.map (some bi)) := (hS2.only0 ((Only.refl _ _).drew)).c2
     clear hS2 hst5 O2
     go_wp2_with fail
     refine wp_region_G (n := 8) (E := fun i => i == 7) (S := fun w' => w'.cell? ⟨bs, 2, none⟩ = some (.map (some bi))) (by kernel_rfl) rfl hc0 (fun hHeld => ?_)
     refine tqW (i := 0) (v := ?_) rfl (.inr (by assumption)) ?_ ?_
     rotate_left
     ·(intro w; go_simp <;> (try with_reducible rfl))
     try simp only [Act.put, zq1, zq3, zq4, zq5, zq6]
     refine tqW (i := 1) (v := ?_) rfl (.inr (by assumption)) ?_ ?_
     rotate_left
     ·(intro w; go_simp <;> (try with_reducible rfl))
     try simp only [Act.put, zq1, zq2, zq3, zq4, zq5, zq6]
     refine tqW (i := 2) (v := ?_) rfl (.inr (by assumption)) ?_ ?_
     rotate_left
     ·(intro w; go_simp <;> (try with_reducible rfl))
     try simp only [Act.put, zq1, zq2, zq3, zq4, zq5, zq6]
     refine tqK (i := 3) (v := ?_) rfl ?_ ?_
     rotate_left
     ·(intro w hSw; (try dsimp only at hSw); go_simp <;> (try with_reducible rfl))
     try simp only [Act.put, zq1, zq2, zq3, zq4, zq5, zq6]
     refine tqW (i := 4) (v := ?_) rfl (.inr (by assumption)) ?_ ?_
     rotate_left
     ·(intro w; go_simp <;> (try with_reducible rfl))
     try simp only [Act.put, zq1, zq2, zq3, zq4, zq5, zq6]
     refine wpAnyG_takeC (i := 5) (v := ?_) (f := 114) (args := #[.int .i64 x]) rfl (by kernel_rfl) (by kernel_rfl) (by kernel_rfl) rfl (by kernel_rfl) (by kernel_rfl) (fun _ _ _ h => h) (by assumption) (by rfl) ?_ ?_ ?_
     rotate_left
     ·(intro w; go_simp <;> (try with_reducible rfl))
     ·(intro w hSw; exact HAb.out w)
     try simp only [Act.put, zq1, zq2, zq3, zq4, zq5, zq6]
     refine tqW (i := 6) (v := ?_) rfl (.inr (by assumption)) ?_ ?_
     rotate_left
     ·(intro w; go_simp <;> (try with_reducible rfl))
     try simp only [Act.put, zq1, zq2, zq3, zq4, zq5, zq6]
     refine wpAnyG_ready (rs := [7]) (by kernel_rfl) (by simp) ?_
     refine AllReadyG.late (i := 7) rfl (by kernel_rfl) (fun K hK => ?_) ?_
     ·(obtain ⟨w5, hmu, h5⟩ := HSt5.out w2.drew ((Only.refl _ _).drew); go_simp)
      refine hK.out _ _ ?_
      clear hK K
      try simp only [Act.put, zq1, zq2, zq3, zq4, zq5, zq6]
      refine wpAnyG_done (by kernel_rfl) ?_ _
      obtain ⟨hS3, hO3⟩ := h5
      have HT3 : Hid (TkAt w bs bi bm b T top { s1 with ks := addK s1.ks a, f := upd s1.f a x } w5) := Lib.hid ⟨hS3, HT2.out.on.same hO3⟩
      have hst6 := hS3.putMet (a := a) (x := w64 (s1.mf a + 1)) hai (w64_in _) (by simp only; unfold maxLen; omega)
      have HSt6 := Lib.hid hst6
      have hC6 : ∀ W, Only (fun _ => False) w5 W → W.cell? ⟨bs, 4, none⟩ = some (.map (some bm)) ∧ (Instr.lookup 138 (.map (some bm)) (cI a) false).run Tryz.prog W = .ok (cI (s1.mf a)) W := fun W oW => ⟨(hS3.only0 oW).c4, (hS3.only0 oW).met.look hai⟩
      have hc0 := hC6 w5.drew ((Only.refl _ _).drew)
      unfold w64 at HSt6
      clear hS3 hO3 hst6 hmu hC6
      go_wp2_with fail
      refine wp_region_G (n := 9) (E := fun i => i == 8) (S := fun w' => w'.cell? ⟨bs, 4, none⟩ = some (.map (some bm)) ∧ (Instr.lookup 138 (.map (some bm)) (cI a) false).run Tryz.prog w' = .ok (cI (s1.mf a)) w') (by kernel_rfl) rfl hc0 (fun hHeld => ?_)
      refine tqW (i := 0) (v := ?_) rfl (.inr (by assumption)) ?_ ?_
      rotate_left
      ·(intro w; go_simp <;> (try with_reducible rfl))
      try simp only [Act.put, zq1, zq3, zq4, zq5, zq6]
      refine tqW (i := 1) (v := ?_) rfl (.inr (by assumption)) ?_ ?_
      rotate_left
      ·(intro w; go_simp <;> (try with_reducible rfl))
      try simp only [Act.put, zq1, zq2, zq3, zq4, zq5, zq6]
      refine tqW (i := 2) (v := ?_) rfl (.inr (by assumption)) ?_ ?_
      rotate_left
      ·(intro w; go_simp <;> (try with_reducible rfl))
      try simp only [Act.put, zq1, zq2, zq3, zq4, zq5, zq6]
      refine tqK (i := 3) (v := ?_) rfl ?_ ?_
      rotate_left
      ·(intro w hSw; (try dsimp only at hSw); go_simp <;> (try with_reducible rfl))
      try simp only [Act.put, zq1, zq2, zq3, zq4, zq5, zq6]
      refine tqW (i := 4) (v := ?_) rfl (.inr (by assumption)) ?_ ?_
      rotate_left
      ·(intro w; go_simp <;> (try with_reducible rfl))
      try simp only [Act.put, zq1, zq2, zq3, zq4, zq5, zq6]
      refine wpAnyG_takeC (i := 5) (v := ?_) (f := 114) (args := #[.int .i64 x]) rfl (by kernel_rfl) (by kernel_rfl) (by kernel_rfl) rfl (by kernel_rfl) (by kernel_rfl) (fun _ _ _ h => h) (by assumption) (by rfl) ?_ ?_ ?_
      rotate_left
      ·(intro w; go_simp <;> (try with_reducible rfl))
      ·(intro w hSw; exact HAb.out w)
      try simp only [Act.put, zq1, zq2, zq3, zq4, zq5, zq6]
      refine wpAnyG_ready (rs := [6]) (by kernel_rfl) (by simp) ?_
      refine AllReadyG.cons (i := 6) rfl (fun K hK => ?_) ?_
      ·go_simp
       refine hK.out _ _ ?_ (fun hHeld => ?_)
       ·(try dsimp only) <;> (go_keep)
       clear hK K
       try simp only [Act.put, zq1, zq2, zq3, zq4, zq5, zq6]
       refine tqW (i := 7) (v := ?_) rfl (.inr (by assumption)) ?_ ?_
       rotate_left
       ·(intro w; go_simp <;> (try with_reducible rfl))
       try simp only [Act.put, zq1, zq2, zq3, zq4, zq5, zq6]
       refine wpAnyG_ready (rs := [8]) (by kernel_rfl) (by simp) ?_
       refine AllReadyG.late (i := 8) rfl (by kernel_rfl) (fun K hK => ?_) ?_
       ·(obtain ⟨w6, hmu, h6⟩ := HSt6.out w5.drew ((Only.refl _ _).drew); go_simp)
        refine hK.out _ _ ?_
        clear hK K
        try simp only [Act.put, zq1, zq2, zq3, zq4, zq5, zq6]
        refine wpAnyG_done (by kernel_rfl) ?_ _
        obtain ⟨hS4, hO4⟩ := h6
        have hO3b : Only (StF bs bi bm) w w6 := (HT3.out.on.same hO4)
        have HS4 := Lib.hid hS4
        have HO3b := Lib.hid hO3b
        have t1 := hS4.c1
        have t3 := hS4.c3
        have f3 := hS4.free 3
        clear hS4 hO4 hO3b hmu
        by_cases hqt : q = top
        ·subst hqt
         have hfm := HS4.out.setMany (w64 (s1.many + 1))
         have hz : TkAt w bs bi bm b T q (T.takes q s (l.take (j + 1))) (w6.setCell ⟨bs, 3, none⟩ (cI (w64 (s1.many + 1)))) := by
          rw [HNext.out, if_pos rfl]
          exact ⟨hfm.1, HO3b.out.same hfm.2⟩
         obtain ⟨m2, hm2⟩ : ∃ m2, w64 (s1.many + 1) = m2 := ⟨_, rfl⟩
         rw [hm2] at hz
         have HZ := Lib.hid hz
         have hm3 : IntKind.i64.wrap (s1.many + 1) = m2 := hm2
         have hm4 : wrap64 (s1.many + 1) = m2 := by rw [← hm3, IntWalk.i64_left]
         clear hfm hz hm2
         go_wp2_with fail
         go_wp2_with fail
         go_roundw
         case rel => exact ⟨j + 1, by first | rfl | go_num, by omega, HZ.out⟩
         case measure => simp [intOf]; omega
        ·have dt : (q == top) = false := by rw [beq_eq_false_iff_ne]; exact hqt
         have hz : TkAt w bs bi bm b T top (T.takes top s (l.take (j + 1))) w6 := by
          rw [HNext.out, if_neg hqt]
          exact ⟨HS4.out, HO3b.out⟩
         have HZ := Lib.hid hz
         clear hz
         go_wp2_with fail
         go_roundw
         case rel => exact ⟨j + 1, by first | rfl | go_num, by omega, HZ.out⟩
         case measure => simp [intOf]; omega
       exact AllReadyG.nil
      exact AllReadyG.nil
     exact AllReadyG.nil
    ·skip
     have dy : (y != 0) = true := by rw [bne_iff_ne]; exact hy0
     have hnext : T.takes top s (l.take (j + 1)) = s1 := by rw [HSn.out]; unfold Trail.take1; rw [if_pos (.inr (by rw [HA.out, hy]; exact hy0))]
     have hfin : ∀ W, Only (fun _ => False) w1 W → TkAt w bs bi bm b T top (T.takes top s (l.take (j + 1))) W := fun W oW => by rw [hnext]; exact ⟨HT1.out.st.only0 oW, HT1.out.on.same (oW.mono fun _ f => f.elim)⟩
     have HFin := Lib.hid hfin
     clear hnext hfin hy
     go_wp2_with fail
     refine wp_region_Q (fun w' => Only (fun _ => False) w1 w') (by kernel_rfl) (by kernel_rfl) (by assumption) ?_
     refine wpQ_val (v := ?_) (by rfl) ?_ ?_
     rotate_left
     ·(intro w hSw; (try dsimp only at hSw); have hcc := HC.out w hSw; obtain ⟨hc1, hc2⟩ := hcc; go_simp <;> (try with_reducible rfl))
     try simp only [Act.put, zq4, zq5, zq6]
     refine wpQ_val (v := ?_) (by rfl) ?_ ?_
     rotate_left
     ·(intro w hSw; (try dsimp only at hSw); have hcc := HC.out w hSw; obtain ⟨hc1, hc2⟩ := hcc; go_simp <;> (try with_reducible rfl))
     try simp only [Act.put, zq4, zq5, zq6]
     refine wpQ_val (v := ?_) (by rfl) ?_ ?_
     rotate_left
     ·(intro w hSw; (try dsimp only at hSw); have hcc := HC.out w hSw; obtain ⟨hc1, hc2⟩ := hcc; go_simp <;> (try with_reducible rfl))
     try simp only [Act.put, zq4, zq5, zq6]
     refine wpQ_val (v := ?_) (by rfl) ?_ ?_
     rotate_left
     ·(intro w hSw; (try dsimp only at hSw); have hcc := HC.out w hSw; obtain ⟨hc1, hc2⟩ := hcc; go_simp <;> (try with_reducible rfl))
     try simp only [Act.put, zq4, zq5, zq6]
     refine wpQ_val (v := ?_) (by rfl) ?_ ?_
     rotate_left
     ·(intro w hSw; (try dsimp only at hSw); have hcc := HC.out w hSw; obtain ⟨hc1, hc2⟩ := hcc; go_simp <;> (try with_reducible rfl))
     try simp only [Act.put, zq4, zq5, zq6]
     refine wpQ_val (v := ?_) (by rfl) ?_ ?_
     rotate_left
     ·(intro w hSw; (try dsimp only at hSw); have hcc := HC.out w hSw; obtain ⟨hc1, hc2⟩ := hcc; go_simp <;> (try with_reducible rfl))
     try simp only [Act.put, zq4, zq5, zq6]
     refine wpQ_val (v := ?_) (by rfl) ?_ ?_
     rotate_left
     ·(intro w hSw; (try dsimp only at hSw); have hcc := HC.out w hSw; obtain ⟨hc1, hc2⟩ := hcc; go_simp <;> (try with_reducible rfl))
     try simp only [Act.put, zq4, zq5, zq6]
     refine wpQ_val (v := ?_) (by rfl) ?_ ?_
     rotate_left
     ·(intro w hSw; (try dsimp only at hSw); have hcc := HC.out w hSw; obtain ⟨hc1, hc2⟩ := hcc; go_simp <;> (try with_reducible rfl))
     try simp only [Act.put, zq4, zq5, zq6]
     refine wpQ_call (v := cI a) (f := 114) (args := #[.int .i64 x]) (by rfl) ?_ ?_ ?_
     ·(intro w; go_simp <;> (try with_reducible rfl))
     ·(intro w hSw; exact (HAb.out w).mono fun _ _ ⟨he, hw⟩ => ⟨he, by rw [← hw]; exact hSw⟩)
     try simp only [Act.put, zq4, zq5, zq6]
     refine wpQ_val (v := ?_) (by rfl) ?_ ?_
     rotate_left
     ·(intro w hSw; (try dsimp only at hSw); have hcc := HC.out w hSw; obtain ⟨hc1, hc2⟩ := hcc; go_simp <;> (try with_reducible rfl))
     try simp only [Act.put, zq4, zq5, zq6]
     refine wpQ_val (v := ?_) (by rfl) ?_ ?_
     rotate_left
     ·(intro w hSw; (try dsimp only at hSw); have hcc := HC.out w hSw; obtain ⟨hc1, hc2⟩ := hcc; go_simp <;> (try with_reducible rfl))
     try simp only [Act.put, zq4, zq5, zq6]
     refine wpQ_val (v := ?_) (by rfl) ?_ ?_
     rotate_left
     ·(intro w hSw; (try dsimp only at hSw); have hcc := HC.out w hSw; obtain ⟨hc1, hc2⟩ := hcc; go_simp <;> (try with_reducible rfl))
     try simp only [Act.put, zq4, zq5, zq6]
     refine wpQuiet_nil ?_
     intro w2 O2
     have hz := HFin.out w2 O2
     have HZ := Lib.hid hz
     clear hz O2
     go_wp2_with fail
     go_roundw
     case rel => exact ⟨j + 1, by first | rfl | go_num, by omega, HZ.out⟩
     case measure => simp [intOf]; omega
  ·skip
   have hjl : j = l.length := by omega
   have hT := HT.out
   rw [hjl, List.take_of_length_le (Nat.le_refl _)] at hT
   have HT2 := Lib.hid hT
   clear hT HT
   subst hjl
   go_wp2_with fail
   go_end0
   exact ⟨rfl, HT2.out.st, HT2.out.on⟩
end
end Go.Proofs.YtjedgdamommgeaaGreat

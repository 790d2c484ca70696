/- The walks of (*prop.Trail).Clause, learn.abs, learn.level, learn.reason. -/
import Derived.Test.YtjedgdamommgeaaPrO
import Derived.Test.YtjedgdamommgeaaLrn1
import Derived.Lib.LazyBuf
set_option linter.unusedVariables false
namespace Go.Proofs.Ytjedgdamommgeaa
open Go.RowKit
open Tr

namespace Tr
/-- what Clause hands back -/
def Trail.clauseL (T : Trail) (k : Int) : Option (List Int) := if T.there k then some (Cnf.formL (T.cl k.toNat)) else none
/-- a literal's level, its reason -/
def Trail.lvl (T : Trail) (l : Int) : Int := (T.at (Cnf.absW l)).1
def Trail.why (T : Trail) (l : Int) : Int := (T.at (Cnf.absW l)).2
def Trail.rsP (T : Trail) (l x : Int) : Bool := Cnf.absW x == Cnf.absW l || T.lvl x == 0
def Trail.reasonL (T : Trail) (l : Int) : Option (List Int) :=
  if T.why l < 0 then none else (T.clauseL (T.why l)).map fun c => c.filter fun x => !T.rsP l x

theorem form_of_good {n : Nat} {c : List Int} (hn : n ≤ 65536) (h : Up.Good n c) : Cnf.form c = some (Cnf.formL c) := by
  have hlit : ∀ x ∈ c, Cnf.Lit x := fun x hx => lit_of (h.lit x hx).1 (by have := (h.lit x hx).2; omega)
  have hw : c.any Cnf.wr = false := Cnf.any_wr hlit
  unfold Cnf.form
  rw [hw]
  simp only [Bool.false_eq_true, if_false]
  have hl2 : ∀ x ∈ Cnf.formL c, Cnf.Lit x := fun x hx => hlit x ((Cnf.mem_formL c x).1 hx)
  have hne : ∀ x ∈ c, -x ∉ c := fun x hx hx2 => h.cons hx hx2
  have hs := Cnf.formL_strict c
  have habs : Cnf.AbsStrict (Cnf.formL c) := by
    unfold Cnf.Strict at hs
    unfold Cnf.AbsStrict
    refine hs.imp_of_mem fun {x y} hx hy hxy => ?_
    rw [Cnf.lt_iff, (hl2 x hx).abs, (hl2 y hy).abs] at hxy
    rcases hxy with h1 | ⟨h1, h2⟩
    · omega
    · exfalso
      have : y = -x := by omega
      rw [this] at hy
      exact hne x ((Cnf.mem_formL c x).1 hx) ((Cnf.mem_formL c (-x)).1 hy)
  rw [Cnf.clash_false_of habs hl2]
  rfl
end Tr

section
variable {w : World} {g : Tag} {b : Nat} {V : TrV} {T : Trail}

theorem slEq (W : World) (a : Option Addr) (n c : Nat) : (binOp .eql 23 (.slice a n c) (.slice none 0 0)).run Try.prog W = .ok (.bool a.isNone) W := Go.run_eql_slice_nil W 23 3 a n c Try.underlying23
theorem slNe (W : World) (a : Option Addr) (n c : Nat) : (binOp .neq 23 (.slice a n c) (.slice none 0 0)).run Try.prog W = .ok (.bool (!a.isNone)) W := Go.run_neq_slice_nil W 23 3 a n c Try.underlying23

/-- what Clause leaves -/
def ClaTo (w : World) (r : Option (List Int)) (e : Ending) (w' : World) : Prop :=
  match r with
  | none => e = .returned nilS ∧ w = w'
  | some c => ∃ ao cap, e = .returned (.slice (some ao) c.length cap) ∧ w'.ownsRow 0 3 1 (.slice (some ao) c.length cap) c.length (c.map cI) ∧ (∀ k, Value.ownBlock (.slice (some ao) c.length cap) = some k → w.heap.size ≤ k) ∧ Only (fun _ => False) w w'

theorem formL_len (c : List Int) : (Cnf.formL c).length ≤ c.length := by
  have h1 := compact_le (Cnf.sortL c)
  have h2 : (Cnf.sortL c).length = c.length := List.length_mergeSort c
  unfold Cnf.formL
  omega

set_option maxRecDepth 100000 in
set_option maxHeartbeats 1600000 in
theorem prop_Clause_any (H : TrAt w g b V T) (o : Ok T) (k : Int) : Calls Try.prog 15 #[.pointer (some ⟨b, 0, none⟩), .int .i64 k] w (ClaTo w (T.clauseL k)) := by
  cases ht : T.there k
  · have hc : T.clauseL k = none := by unfold Trail.clauseL; rw [ht]; rfl
    rw [hc]
    have hth := prop_there_any H o k false ht
    have HTh := Lib.hid hth
    clear hth hc ht H o
    go_enter Try.func15, Try.ntmps15
    go_wp2_with fail
    refine HTh.out.mono ?_
    rintro e w' ⟨rfl, rfl⟩
    go_wp2_with fail
    go_ret
    exact ⟨rfl, rfl⟩
  · have hth := prop_there_any H o k true ht
    have HTh := Lib.hid hth
    have ht2 := ht
    unfold Trail.there at ht2
    simp only [Bool.and_eq_true, decide_eq_true_eq] at ht2
    obtain ⟨m, rfl⟩ := Int.eq_ofNat_of_zero_le ht2.1.1
    have hm : m < T.cls.length := by have := ht2.1.2; omega
    have hg := o.cl hm
    have hn := o.n
    have hgl := hg.len
    have hc : T.clauseL (m : Int) = some (Cnf.formL (T.cl m)) := by unfold Trail.clauseL; rw [ht]; rfl
    rw [hc]
    have hci := H.ci m hm
    rw [show T.cls.getD m [] = T.cl m from rfl] at hci
    have hI := hci.ints (fun x hx => by have := hg.lit x hx; unfold InI64; omega)
    have q1 := H.f1
    obtain ⟨bc, cc, hvc, -, -, -, -⟩ := H.c.pos (by rw [H.ul]; omega)
    have hrc := H.c
    rw [hvc, H.ul] at q1 hrc
    have q2 := hrc.cell nilS (i := m) (by rw [H.ul]; exact hm)
    obtain ⟨au, cu, hvu, _, _⟩ := hI.shape
    rw [hvu] at q2 hI
    have hF := Form_any hI (by omega)
    have HF := Lib.hid hF
    have hfo := form_of_good hn hg
    have HFo := Lib.hid hfo
    have hfl := formL_len (T.cl m)
    have dm : decide (m < T.cls.length) = true := decide_eq_true hm
    clear hth hc ht ht2 H o hF hfo hci hI hvc hrc hvu hg
    generalize (T.cl m).length = lm at *
    generalize T.cls.length = lc at *
    have heqn := slEq
    go_enter Try.func15, Try.ntmps15
    go_wp2_with fail
    refine HTh.out.mono ?_
    rintro e w' ⟨rfl, rfl⟩
    go_wp2_with fail
    refine HF.out.mono ?_
    intro e w1 hp
    unfold FormPost at hp
    rw [HFo.out] at hp
    obtain ⟨v, rfl, R1, N1, O1⟩ := hp
    generalize Cnf.formL (T.cl m) = f at *
    have HO1 := Lib.hid O1
    have HN1 := Lib.hid N1
    have HR1 := Lib.hid R1
    by_cases h0 : f.length = 0
    · have hf : f = [] := List.eq_nil_of_length_eq_zero h0
      subst hf
      obtain ⟨ao, cap, rfl, -, -⟩ := own_slice R1
      cases ao with
      | none =>
        have hcap : cap = 0 := (own_nil R1).2
        subst hcap
        clear O1 N1 R1
        go_wp2_with fail
        go_ret
        exact ⟨⟨w1.heap.size, 0, none⟩, 0, rfl, own_lit0 w1, fun k hk => by simp [Value.ownBlock] at hk; have := HO1.out.size; omega, HO1.out.alloc _⟩
      | some ad =>
        clear O1 N1 R1
        go_wp2_with fail
        go_ret
        exact ⟨ad, cap, rfl, HR1.out, HN1.out, HO1.out⟩
    · obtain ⟨gb, cap, rfl, -, -⟩ := own_some R1 (by omega)
      clear O1 N1 R1
      go_wp2_with fail
      go_ret
      exact ⟨⟨gb, 0, none⟩, cap, rfl, HR1.out, HN1.out, HO1.out⟩

theorem learn_abs_any (x r : Int) (hr : Cnf.absW x = r) : Calls Try.prog 48 #[.int .i64 x] w fun e w' => e = .returned (.int .i64 r) ∧ w = w' := by
  subst hr
  unfold Cnf.absW
  generalize hy : IntKind.i64.wrap (-x) = y
  go_enter Try.func48, Try.ntmps48
  go_wp2
  go_ret
  exact ⟨rfl, rfl⟩

theorem absW_in {x : Int} (hx : InI64 x) : InI64 (Cnf.absW x) := by
  unfold Cnf.absW
  unfold InI64 at *
  rw [IntKind.wrap_i64]
  omega

theorem learn_level_any (H : TrAt w g b V T) (o : Ok T) (x : Int) (hx : InI64 x) (r : Int) (hr : T.lvl x = r) :
    Calls Try.prog 37 #[.pointer (some ⟨b, 0, none⟩), .int .i64 x] w fun e w' => e = .returned (.int .i64 r) ∧ Only (fun _ => False) w w' := by
  obtain ⟨a, ha⟩ : ∃ a, Cnf.absW x = a := ⟨_, rfl⟩
  have hab := learn_abs_any (w := w) x a ha
  obtain ⟨p1, p2, hp⟩ : ∃ p1 p2, T.at a = (p1, p2) := ⟨_, _, rfl⟩
  have hat := prop_At_any H o a (by rw [← ha]; exact absW_in hx) _ hp
  have hr2 : p1 = r := by rw [← hr]; unfold Trail.lvl; rw [ha, hp]
  subst hr2
  have HAb := Lib.hid hab
  have HAt := Lib.hid hat
  clear hab hat H o hr hp ha hx
  go_enter Try.func37, Try.ntmps37
  go_wp2_with fail
  refine HAb.out.mono ?_
  rintro e w1 ⟨rfl, rfl⟩
  go_wp2_with fail
  refine HAt.out.mono ?_
  rintro e w2 ⟨rfl, O2⟩
  go_wp2_with fail
  go_ret
  exact ⟨rfl, O2⟩
end
end Go.Proofs.Ytjedgdamommgeaa

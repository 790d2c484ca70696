/- SvP1 SvP2 SvP3 SvP4 SvP5 SvP6 SvP7 SvP8 SvP9, in one text. -/
import Derived.Test.YtjedgdamommgeaaGreatLrnP
import Derived.Test.YtjedgdamommgeaaGreatPrO
set_option linter.unusedVariables false
namespace Go.Proofs.YtjedgdamommgeaaGreat
open Go.RowKit
namespace Sv
open Tr Cnf
structure Note where
 num : Int
 size : Int
 levels : Int
structure St where
 T : Trail
 learnt : List Note
 left : Int
 turns : Int
 keep : Int
 dead : Bool
 proof : List (Bool × List Int)
def proves (c : List Int) : List (Bool × List Int) := match form c with
 | some f => [(false, f)]
 | none => []
def St.learn (S : St) (L : Less) : St :=
 { S with
  T := (S.T.back L.back).addX L.clause
  learnt := S.learnt ++ [⟨(S.T.back L.back).addR L.clause, L.clause.length, (S.T.levs L.clause).length⟩]
  proof := S.proof ++ proves L.clause }
structure Gone (S : St) (gone : List Int) : Prop where
 nd : gone.Nodup
 sub : ∀ k ∈ gone, ∃ x ∈ S.learnt, x.num = k ∧ ∀ l ∈ (S.T.clauseL k).getD [], S.T.why l ≠ k
def dropAll (T : Trail) (gone : List Int) : Trail := gone.foldl Trail.drop T
def St.forget (S : St) (gone : List Int) : St :=
 { S with
  T := dropAll S.T gone
  learnt := S.learnt.filter fun x => !gone.contains x.num
  proof := S.proof ++ gone.map fun k => (true, (S.T.clauseL k).getD []) }
def asks (T : Trail) : List Int → Option (Int × Bool)
 | [] => none
 | l :: r => if T.val l = -1 then some (l, true) else if T.val l = 0 then some (l, false) else asks T r
def coreTo (l : Int) (why : List Int) : List Int → List Int → List Int
 | [], out => out
 | a :: r, out => coreTo l why r (if (a == l || why.contains a) && !out.contains a then out ++ [a] else out)
def coreL (qs : List Int) (l : Int) (why : List Int) : List Int := coreTo l why qs []
inductive Ans where
 | sat (m : List Bool) (met : Int)
 | unsat (core : List Int) (met : Int)
 | spent (met : Int)
def modelL (T : Trail) : List Bool := (List.range T.n).map fun (i : Nat) => decide (0 < T.val ((i : Int) + 1))
inductive After (pace : Int → Int → Int → Nat → (Int × Int × Int) × Bool × Bool) : St → St → Prop
 | mk {S : St} {l t k : Int} {anew fg : Bool} {gone : List Int} : pace S.left S.turns S.keep S.learnt.length = ((l, t, k), anew, fg) → (fg = true → Gone { S with T := if anew then S.T.back 0 else S.T } gone) → (fg = false → gone = []) →
   After pace S (({ S with T := (if anew then S.T.back 0 else S.T), left := l, turns := t, keep := k } : St).forget gone)
inductive Run (pace : Int → Int → Int → Nat → (Int × Int × Int) × Bool × Bool) (qs : List Int) (bud : Int) : St → Int → St → Ans → Prop
 | dead {S : St} {met : Int} : S.dead = true → Run pace qs bud S met S (.unsat [] met)
 | core {S : St} {met : Int} {T' : Trail} {l : Int} : S.dead = false → Foll S.T T' (-1) → asks T' qs = some (l, true) →
   Run pace qs bud S met { S with T := T', proof := S.proof ++ proves ((coreL qs l (T'.whyL (-l))).map fun x => -x) } (.unsat (coreL qs l (T'.whyL (-l))) met)
 | ask {S S2 : St} {met : Int} {T' : Trail} {l : Int} {a : Ans} : S.dead = false → Foll S.T T' (-1) → asks T' qs = some (l, false) → Run pace qs bud { S with T := T'.dec l } met S2 a → Run pace qs bud S met S2 a
 | sat {S : St} {met : Int} {T' : Trail} : S.dead = false → Foll S.T T' (-1) → asks T' qs = none → (∀ i : Nat, 1 ≤ i → i ≤ T'.n → T'.val (i : Int) ≠ 0) → Run pace qs bud S met { S with T := T' } (.sat (modelL T') met)
 | pick {S S2 : St} {met : Int} {T' : Trail} {l : Int} {a : Ans} : S.dead = false → Foll S.T T' (-1) → asks T' qs = none → (l ≠ 0 ∧ l.natAbs ≤ T'.n) → T'.val l = 0 → Run pace qs bud { S with T := T'.dec l } met S2 a → Run pace qs bud S met S2 a
 | done {S : St} {met : Int} {T' : Trail} {k : Int} : S.dead = false → Foll S.T T' k → 0 ≤ k → (T'.lesson k = none ∨ T'.lesson k = some none) → Run pace qs bud S met { S with T := T', dead := true, proof := S.proof ++ [(false, [])] } (.unsat [] (met + 1))
 | spent {S : St} {met : Int} {T' : Trail} {k : Int} {L : Less} : S.dead = false → Foll S.T T' k → 0 ≤ k → T'.lesson k = some (some L) → bud < met + 1 → Run pace qs bud S met (({ S with T := T' } : St).learn L) (.spent (met + 1))
 | on {S S1 S2 : St} {met : Int} {T' : Trail} {k : Int} {L : Less} {a : Ans} : S.dead = false → Foll S.T T' k → 0 ≤ k → T'.lesson k = some (some L) → ¬ bud < met + 1 → After pace (({ S with T := T' } : St).learn L) S1 → Run pace qs bud S1 (met + 1) S2 a → Run pace qs bud S met S2 a
end Sv
namespace Tr
open Cnf Up
def Trail.heldP (T : Trail) : Prop := ∀ x ∈ T.ents, 0 ≤ x.2.2 → T.live x.2.2.toNat
theorem held_iff {T : Trail} : T.held ↔ T.heldP := by
 constructor
 ·intro h x hx h0
  obtain ⟨i, hi, e⟩ := List.getElem_of_mem hx
  have e2 : T.ent i = x := by unfold Trail.ent; rw [List.getD_eq_getElem?_getD, List.getElem?_eq_getElem hi]; exact e
  have := h i hi (by rw [e2]; exact h0)
  rw [e2] at this; exact this
 ·intro h i hi h0
  exact h _ (getD_mem' _ hi) h0
theorem heldP_of {T U : Trail} (h : T.heldP) (e : U.ents = T.ents) (l : ∀ k, U.live k ↔ T.live k) : U.heldP := fun x hx h0 => (l _).2 (h x (by rw [← e]; exact hx) h0)
theorem heldP_put {T U : Trail} (h : T.heldP) {x : Int × Nat × Int} (e : U.ents = T.ents ++ [x]) (l : ∀ k, U.live k ↔ T.live k) (hx : 0 ≤ x.2.2 → T.live x.2.2.toNat) : U.heldP := fun y hy h0 => by
 rw [e] at hy
 rcases List.mem_append.1 hy with hy | hy
 ·exact (l _).2 (h y hy h0)
 ·simp at hy; subst hy; exact (l _).2 (hx h0)
theorem visit_held (l : Int) : ∀ (r kept : List Nat) (T : Trail), VI l T kept r → T.heldP → (T.visit l r kept).1.heldP
 | [], kept, T, _, hh => by
  unfold Trail.visit
  exact heldP_of hh rfl fun _ => Iff.rfl
 | k :: r, kept, T, h, hh => by
  obtain ⟨c, hc⟩ : ∃ c, turn l (T.cl k) = c := ⟨_, rfl⟩
  have N := h.names hc
  have hlk := h.step.live
  have hl1 : ∀ m, (T.setC k c).live m ↔ T.live m := fun m => by unfold Trail.live Trail.setC; simp
  unfold Trail.visit
  simp only [hc]
  by_cases hA : 1 < c.length ∧ (T.setC k c).val (c.getD 0 0) ≤ 0 ∧ ((T.setC k c).moves k).2 = true
  ·rw [if_pos hA]
   obtain ⟨h1, h2⟩ := h.moved N hA.1 hA.2.2
   refine visit_held l r kept _ h1 (heldP_of hh ?_ fun m => h2.ext.live m)
   unfold Trail.moves
   split <;> rfl
  ·rw [if_neg hA]
   have hm2 : (T.setC k c).val (c.getD 0 0) ≤ 0 → 1 < c.length → ((T.setC k c).moves k).2 = false := fun h0 h1 => by
    cases hb : ((T.setC k c).moves k).2
    ·rfl
    ·exact absurd ⟨h1, h0, hb⟩ hA
   by_cases hB1 : (T.setC k c).val (c.getD 0 0) = -1
   ·rw [if_pos hB1]
    exact heldP_of hh rfl fun m => (show _ ↔ _ from hl1 m)
   ·rw [if_neg hB1]
    have h1 : 1 < c.length := by
     by_cases h1 : 1 < c.length
     ·exact h1
     ·exact absurd (N.one h1) hB1
    by_cases hB2 : (T.setC k c).val (c.getD 0 0) = 0
    ·rw [if_pos hB2]
     obtain ⟨h3, h4⟩ := h.puts N h1 (hm2 (by omega) h1) hB2
     exact visit_held l r (kept ++ [k]) _ h3 (heldP_put hh rfl (fun m => h4.ext.live m) fun _ => by simpa using hlk)
    ·rw [if_neg hB2]
     have hB3 : (T.setC k c).val (c.getD 0 0) = 1 := by have := val3 (T.setC k c) (c.getD 0 0); omega
     obtain ⟨h3, h4⟩ := h.keeps N h1 hB3
     exact visit_held l r (kept ++ [k]) _ h3 (heldP_of hh rfl fun m => h4.ext.live m)
theorem first_held {T : Trail} (hh : T.heldP) {k : Nat} (hk : T.live k) : (T.first k).1.heldP := by
 have hl : ∀ m, (T.first0 k).live m ↔ T.live m := fun m => by unfold Trail.live Trail.first0; simp
 have h0 : (T.first0 k).heldP := heldP_of hh rfl hl
 unfold Trail.first Trail.firstV
 split
 ·exact h0
 ·split
  ·exact h0
  ·split
   ·exact heldP_put h0 rfl (fun _ => Iff.rfl) fun _ => by simpa using (hl k).2 hk
   ·exact heldP_of h0 rfl fun _ => Iff.rfl
theorem foll_held {T T' : Trail} {r : Int} (h : Foll T T' r) : Inv T → T.heldP → T'.heldP := by
 induction h with
 | done hs hn => intro _ hh; exact hh
 | @conf T T' k hn hv hk =>
  intro i hh
  have hl := i.ok.litAt hn
  have := visit_held (-(T.lits.getD T.next 0)) _ [] T (VI.start i (by omega) (by rw [Int.neg_neg]; exact getD_mem' 0 (by rw [lits_len]; exact hn))) hh
  rw [hv] at this; exact this
 | @step T T' T2 k r hn hv hk _ ih =>
  intro i hh
  have hl := i.ok.litAt hn
  have hs := VI.start i (l := -(T.lits.getD T.next 0)) (by omega) (by rw [Int.neg_neg]; exact getD_mem' 0 (by rw [lits_len]; exact hn))
  have hp := visit_post (-(T.lits.getD T.next 0)) _ [] T hs
  have hv2 := visit_held (-(T.lits.getD T.next 0)) _ [] T hs hh
  rw [hv] at hp hv2
  rcases hp.end_ with ⟨e, hkp⟩ | ⟨m, e, _⟩
  ·obtain ⟨rr, hrr⟩ := hp.ext.ext.lits
   obtain ⟨re, hre⟩ := hp.ext.ext.ents
   have hx : T'.lits.getD T'.next 0 = -(-(T.lits.getD T.next 0)) := by
    have hnx : T'.next = T.next := hp.ext.next
    rw [Int.neg_neg, hnx]
    have hrr : T'.lits = T.lits ++ rr := hrr
    rw [hrr, getD_app_l _ _ _ (by rw [lits_len]; exact hn)]
   have hn' : T'.next < T'.ents.length := by
    have hnx : T'.next = T.next := hp.ext.next
    have hre : T'.ents = T.ents ++ re := hre
    rw [hnx, hre, List.length_append]; omega
   have i2 := hp.inv.step (l := -(T.lits.getD T.next 0)) (by omega) hn' hx hkp
   exact ih i2 (heldP_of hv2 rfl fun _ => Iff.rfl)
  ·simp only at e; omega
 | @skip T T2 k s r hn hs ht _ ih =>
  intro i hh
  have hnl : ¬ T.live k := fun hl => by rw [there_iff.2 hl] at ht; cases ht
  have i2 : Inv { T with short := s } := i.unshort hs (.inl rfl) (fun hl => absurd hl hnl) (fun _ hl => absurd hl hnl)
  exact ih i2 (heldP_of hh rfl fun _ => Iff.rfl)
 | @bad T T' k s hn hs ht hf =>
  intro i hh
  have := first_held hh (there_iff.1 ht)
  rw [hf] at this; exact this
 | @look T T' T2 k s r hn hs ht hf _ ih =>
  intro i hh
  have hp := first_post i hs (there_iff.1 ht) hn
  have h3 := first_held hh (there_iff.1 ht)
  rw [hf] at hp h3
  obtain ⟨h1, h2⟩ := hp.yes rfl
  exact ih h1 (heldP_of h3 rfl fun _ => Iff.rfl)
theorem heldP_dec {T : Trail} (h : T.heldP) (l : Int) : (T.dec l).heldP := heldP_put (T := T) h rfl (fun _ => Iff.rfl) fun h0 => by
 exact absurd h0 (by show ¬ (0 : Int) ≤ -1; decide)
theorem heldP_back {T : Trail} (h : T.heldP) (k : Int) : (T.back k).heldP := by
 unfold Trail.back
 split
 ·intro x hx h0
  exact h x (List.mem_of_mem_take hx) h0
 ·exact h
theorem heldP_add {T : Trail} (h : T.heldP) (o : Ok T) (c : List Int) : (T.add c).heldP := fun x hx h0 => by
 have h1 := h x hx h0
 have hg := o.gl
 have hl := h1.1
 refine ⟨?_, ?_⟩
 ·show _ < (T.cls ++ [c]).length
  rw [List.length_append]; omega
 ·show (T.gone ++ [false]).getD _ true = false
  rw [getD_app_l _ _ _ (by omega)]; exact h1.2
theorem heldP_drop {T : Trail} (h : T.heldP) (i : Inv T) {k : Nat} (hk : T.live k) (hr : ∀ l ∈ T.cl k, T.why l ≠ k) : (T.drop (k : Int)).heldP := fun x hx h0 => by
 have hx' : x ∈ T.ents := by
  have : (T.drop (k : Int)).ents = T.ents := by unfold Trail.drop; split <;> rfl
  rw [← this]; exact hx
 refine (drop_live i.ok hk).2 ⟨h x hx' h0, fun e => ?_⟩
 obtain ⟨q, hq, eq⟩ := List.getElem_of_mem hx'
 have e2 : T.ent q = x := by unfold Trail.ent; rw [List.getD_eq_getElem?_getD, List.getElem?_eq_getElem hq]; exact eq
 rcases i.rea q hq with h1 | ⟨_, _, hc⟩
 ·rw [e2] at h1; omega
 ·rw [e2, e] at hc
  refine hr x.1 hc.mem ?_
  have h2 := (at_pos i hq (y := x.1) (by rw [← ent_lit, e2])).2
  rw [h2, e2]
  omega
end Tr
namespace Tr
open Cnf Up
theorem add_live {T : Trail} (o : Ok T) (c : List Int) (k : Nat) : (T.add c).live k ↔ T.live k ∨ k = T.cls.length := by
 have hg := o.gl
 unfold Trail.live Trail.add
 simp only [List.length_append, List.length_singleton]
 constructor
 ·rintro ⟨h1, h2⟩
  by_cases e : k = T.cls.length
  ·exact .inr e
  ·rw [getD_app_l _ _ _ (by omega)] at h2
   exact .inl ⟨by omega, h2⟩
 ·rintro (⟨h1, h2⟩ | rfl)
  ·exact ⟨by omega, by rw [getD_app_l _ _ _ (by omega)]; exact h2⟩
  ·refine ⟨by omega, ?_⟩
   rw [getD_app_r _ _ _ (by omega), show T.cls.length - T.gone.length = 0 by omega]; rfl
theorem add_cl (T : Trail) (c : List Int) {k : Nat} (hk : k < T.cls.length) : (T.add c).cl k = T.cl k := by
 unfold Trail.cl Trail.add; exact getD_app_l _ _ _ hk
theorem add_new (T : Trail) (c : List Int) : (T.add c).cl T.cls.length = c := by
 unfold Trail.cl Trail.add
 simp only
 rw [getD_app_r _ _ _ (Nat.le_refl _)]; simp
theorem back_same (T : Trail) (k : Int) : (T.back k).cls = T.cls ∧ (T.back k).gone = T.gone ∧ (T.back k).n = T.n := by
 unfold Trail.back; split <;> exact ⟨rfl, rfl, rfl⟩
theorem back_live (T : Trail) (k : Int) (m : Nat) : (T.back k).live m ↔ T.live m := by
 obtain ⟨h1, h2, _⟩ := back_same T k
 unfold Trail.live; rw [h1, h2]
theorem back_cl (T : Trail) (k : Int) (m : Nat) : (T.back k).cl m = T.cl m := by unfold Trail.cl; rw [(back_same T k).1]
theorem drop_cl (T : Trail) (k : Int) (m : Nat) : (T.drop k).cl m = T.cl m := by unfold Trail.cl Trail.drop; split <;> rfl
theorem drop_ents (T : Trail) (k : Int) : (T.drop k).ents = T.ents ∧ (T.drop k).n = T.n ∧ (T.drop k).cls = T.cls ∧ (T.drop k).levels = T.levels := by unfold Trail.drop; split <;> exact ⟨rfl, rfl, rfl, rfl⟩
theorem drop_why (T : Trail) (k l : Int) : (T.drop k).why l = T.why l := by
 unfold Trail.why Trail.at Trail.val Trail.lits
 rw [(drop_ents T k).1]
end Tr
namespace Sv
open Tr Cnf Up
def Ent (O : List (List Int)) (c : List Int) : Prop := ∀ m : List Bool, Rup.Sat O m → ∃ x ∈ c, soB x m = true
theorem Ent.mem {O : List (List Int)} {c d : List Int} (h : Ent O c) (hm : ∀ x ∈ c, x ∈ d) : Ent O d := fun m hs => by
 obtain ⟨x, hx, e⟩ := h m hs
 exact ⟨x, hm x hx, e⟩
structure Holds (n : Nat) (O : List (List Int)) (S : St) : Prop where
 inv : Tr.Inv S.T
 hn : S.T.n = n
 held : S.T.heldP
 orig : ∀ c ∈ O, ∃ k : Nat, S.T.live k ∧ (∀ x ∈ S.learnt, x.num ≠ (k : Int)) ∧ c.Perm (S.T.cl k)
 lnum : ∀ x ∈ S.learnt, ∃ k : Nat, x.num = (k : Int) ∧ S.T.live k
 lnd : (S.learnt.map (·.num)).Nodup
 sem : ∀ k, S.T.live k → Ent O (S.T.cl k)
 dead : S.dead = true → Ent O []
section
variable {n : Nat} {O : List (List Int)} {S : St}
theorem cl_good {T : Trail} (o : Ok T) {k : Nat} (h : T.live k) : Up.Good T.n (T.cl k) := o.cls _ (getD_mem' [] h.1 : T.cl k ∈ T.cls)
theorem live_sat {T : Trail} (sem : ∀ k, T.live k → Ent O (T.cl k)) {m : List Bool} (hm : Rup.Sat O m) : ∀ d ∈ T.liveTo T.cls.length, ∃ x ∈ d, soB x m = true := fun d hd => by
 obtain ⟨i, _, h2, _⟩ := mem_liveTo.1 hd
 obtain ⟨h3, rfl⟩ := clauseL_some h2
 obtain ⟨x, hx, e⟩ := sem i h3 m hm
 exact ⟨x, (mem_formL _ _).2 hx, e⟩
theorem live_lit {T : Trail} (o : Ok T) : ∀ d ∈ T.liveTo T.cls.length, ∀ x ∈ d, Cnf.Lit x := fun d hd x hx => by
 have hg := (live_cls o hd).1.lit x hx
 have := o.n
 exact lit_of hg.1 (by omega)
theorem Holds.foll (h : Holds n O S) {T' : Trail} {r : Int} (hf : Foll S.T T' r) : Holds n O { S with T := T' } := by
 obtain ⟨i, e, _⟩ := foll_post hf h.inv
 refine ⟨i, e.n.trans h.hn, foll_held hf h.inv h.held, fun c hc => ?_, fun x hx => ?_, h.lnd, fun k hk => ?_, h.dead⟩
 ·obtain ⟨k, h1, h2, h3⟩ := h.orig c hc
  exact ⟨k, (e.live k).2 h1, h2, h3.trans (e.perm k).symm⟩
 ·obtain ⟨k, h1, h2⟩ := h.lnum x hx
  exact ⟨k, h1, (e.live k).2 h2⟩
 ·exact (h.sem k ((e.live k).1 hk)).mem fun x hx => (e.perm k).mem_iff.2 hx
theorem Holds.dec (h : Holds n O S) {l : Int} (hl : l ≠ 0 ∧ l.natAbs ≤ S.T.n) (hv : S.T.val l = 0) : Holds n O { S with T := S.T.dec l } :=
 ⟨h.inv.decide hl hv, h.hn, heldP_dec h.held l, h.orig, h.lnum, h.lnd, h.sem, h.dead⟩
theorem Holds.back (h : Holds n O S) (k : Int) : Holds n O { S with T := S.T.back k } := by
 refine ⟨h.inv.back k, (back_same S.T k).2.2.trans h.hn, heldP_back h.held k, fun c hc => ?_, fun x hx => ?_, h.lnd, fun m hm => ?_, h.dead⟩
 ·obtain ⟨m, h1, h2, h3⟩ := h.orig c hc
  exact ⟨m, (back_live _ k m).2 h1, h2, by rw [back_cl]; exact h3⟩
 ·obtain ⟨m, h1, h2⟩ := h.lnum x hx
  exact ⟨m, h1, (back_live _ k m).2 h2⟩
 ·rw [show (S.T.back k).cl m = S.T.cl m from back_cl _ k m]
  exact h.sem m ((back_live _ k m).1 hm)
theorem Holds.plain (h : Holds n O S) (l t k : Int) (p : List (Bool × List Int)) : Holds n O { S with left := l, turns := t, keep := k, proof := p } :=
 ⟨h.inv, h.hn, h.held, h.orig, h.lnum, h.lnd, h.sem, h.dead⟩
theorem Holds.taught (h : Holds n O S) {k : Nat} (hk : S.T.live k) (hn : ∀ x ∈ S.T.cl k, -x ∈ S.T.lits) :
  (S.T.lesson k = some none ∧ Ent O []) ∨ ∃ top first rest atoms, S.T.lesson k = some (some ⟨first :: rest, rest.foldl (fun b l => max b (S.T.lvl l)) 0, atoms⟩) ∧ 0 < top ∧ Taught S.T (S.T.liveTo S.T.cls.length) top first rest ∧ Ent O (first :: rest) := by
 have o := h.inv.ok
 obtain ⟨_, hl⟩ := lesson_law h.inv (held_iff.2 h.held) (live_among o) hk hn
 rcases hl with ⟨_, h1, h2⟩ | ⟨h0, first, rest, atoms, h1, W⟩
 ·refine .inl ⟨h1, fun m hm => ?_⟩
  by_cases he : S.T.cl k = []
  ·obtain ⟨x, hx, _⟩ := h.sem k hk m hm
   rw [he] at hx; cases hx
  ·exact absurd (h2 he) (Rup.conf_not (m := m) (live_lit o) (fun x hx => by cases hx) (live_sat h.sem hm))
 ·refine .inr ⟨_, first, rest, atoms, h1, h0, W, fun m hm => ?_⟩
  have hb := taught_model (m := m) h.inv W (live_lit o) (by
   unfold holdsB
   rw [List.all_eq_true]
   intro d hd
   rw [List.any_eq_true]
   exact live_sat h.sem hm d hd)
  unfold holdsB at hb
  simp only [List.all_cons, List.all_nil, Bool.and_true] at hb
  rw [List.any_eq_true] at hb
  exact hb
theorem taught_form {T : Trail} (i : Inv T) {D : List (List Int)} {top first : Int} {rest : List Int} (W : Taught T D top first rest) (k : Int) :
  form (first :: rest) = some (formL (first :: rest)) ∧ (T.back k).addX (first :: rest) = (T.back k).add (formL (first :: rest)) ∧ (T.back k).addR (first :: rest) = (T.cls.length : Int) := by
 have hg := W.good i
 have hf := form_of_good i.ok.n hg
 have hb := back_same T k
 have hall : ∀ x ∈ formL (first :: rest), x ≠ 0 ∧ x.natAbs ≤ (T.back k).n := fun x hx => by rw [hb.2.2]; exact hg.lit x ((mem_formL _ _).1 hx)
 refine ⟨hf, addX_form hf hall, ?_⟩
 unfold Trail.addR
 rw [hf]
 have : (formL (first :: rest)).all (T.back k).is = true := List.all_eq_true.2 fun x hx => is_iff.2 (hall x hx)
 simp only [this, if_true]
 rw [hb.1]
theorem Holds.learn (h : Holds n O S) {D : List (List Int)} {top first : Int} {rest : List Int} {L : Less} (hL : L.clause = first :: rest) (W : Taught S.T D top first rest) (he : Ent O (first :: rest)) (hb : S.T.cls.length < 2147483648) : Holds n O (S.learn L) := by
 obtain ⟨f1, f2, f3⟩ := taught_form h.inv W L.back
 have hbk := h.back L.back
 have hg : Up.Good S.T.n (formL (first :: rest)) := good_perm (W.good h.inv) (formL_perm h.inv.ok.n (W.good h.inv))
 have hlen : (S.T.back L.back).cls.length = S.T.cls.length := by rw [(back_same S.T L.back).1]
 have hT : (S.learn L).T = (S.T.back L.back).add (formL (first :: rest)) := by unfold St.learn; simp only [hL]; exact f2
 have hl : (S.learn L).learnt = S.learnt ++ [⟨(S.T.cls.length : Int), L.clause.length, (S.T.levs L.clause).length⟩] := by unfold St.learn; simp only [hL, f3]
 have ob := hbk.inv.ok
 have hliv := fun m => add_live ob (formL (first :: rest)) m
 refine ⟨?_, ?_, ?_, fun c hc => ?_, fun x hx => ?_, ?_, fun m hm => ?_, h.dead⟩
 ·rw [hT]
  refine hbk.inv.add ?_ ?_
  ·rw [show (S.T.back L.back).n = S.T.n from (back_same S.T L.back).2.2]; exact hg
  ·show (S.T.back L.back).cls.length < _
   omega
 ·rw [hT]; exact hbk.hn
 ·rw [hT]; exact heldP_add hbk.held ob _
 ·obtain ⟨k, h1, h2, h3⟩ := h.orig c hc
  have h1b := (back_live S.T L.back k).2 h1
  rw [hT, hl]
  refine ⟨k, (hliv k).2 (.inl h1b), fun x hx => ?_, ?_⟩
  ·rcases List.mem_append.1 hx with hx | hx
   ·exact h2 x hx
   ·simp at hx; subst hx
    have := h1.1
    show (S.T.cls.length : Int) ≠ k
    omega
  ·rw [add_cl _ _ h1b.1, back_cl]; exact h3
 ·rw [hl] at hx
  rw [hT]
  rcases List.mem_append.1 hx with hx | hx
  ·obtain ⟨k, h1, h2⟩ := h.lnum x hx
   exact ⟨k, h1, (hliv k).2 (.inl ((back_live S.T L.back k).2 h2))⟩
  ·simp at hx; subst hx
   exact ⟨S.T.cls.length, rfl, (hliv _).2 (.inr hlen.symm)⟩
 ·rw [hl, List.map_append, List.nodup_append]
  refine ⟨h.lnd, by simp, fun a ha b hb' e => ?_⟩
  obtain ⟨x, hx, rfl⟩ := List.mem_map.1 ha
  obtain ⟨k, h1, h2⟩ := h.lnum x hx
  simp at hb'
  have := h2.1
  omega
 ·rw [hT] at hm ⊢
  rcases (hliv m).1 hm with h1 | rfl
  ·rw [add_cl _ _ h1.1, back_cl]
   exact h.sem m ((back_live _ _ m).1 h1)
  ·rw [add_new]
   exact he.mem fun x hx => (mem_formL _ _).2 hx
theorem Holds.forget : ∀ (gone : List Int) {S : St}, Holds n O S → Gone S gone → Holds n O (S.forget gone)
 | [], S, h, _ => by
  have e : S.forget [] = { S with learnt := S.learnt, proof := S.proof ++ [] } := by
   unfold St.forget dropAll
   simp
  rw [e]
  exact ⟨h.inv, h.hn, h.held, h.orig, h.lnum, h.lnd, h.sem, h.dead⟩
 | g :: r, S, h, G => by
  obtain ⟨x, hx, hxn, hr⟩ := G.sub g (by simp)
  obtain ⟨k, hk, hlive⟩ := h.lnum x hx
  obtain rfl : g = (k : Int) := by rw [← hxn]; exact hk
  have hcl := clauseL_live hlive
  rw [hcl] at hr
  simp only [Option.getD_some] at hr
  have hr' : ∀ l ∈ S.T.cl k, S.T.why l ≠ k := fun l hl => hr l ((mem_formL _ _).2 hl)
  have hnr := List.nodup_cons.1 G.nd
  -- one is dropped
  have h1 : Holds n O { S with T := S.T.drop k, learnt := S.learnt.filter fun x => !(x.num == (k : Int)), proof := S.proof ++ [(true, formL (S.T.cl k))] } := by
   refine ⟨h.inv.drop hlive, (drop_ents S.T k).2.1.trans h.hn, heldP_drop h.held h.inv hlive hr', fun c hc => ?_, fun y hy => ?_, ?_, fun m hm => ?_, h.dead⟩
   ·obtain ⟨m, m1, m2, m3⟩ := h.orig c hc
    refine ⟨m, (drop_live h.inv.ok hlive).2 ⟨m1, fun e => ?_⟩, fun y hy => m2 y (List.mem_filter.1 hy).1, by rw [drop_cl]; exact m3⟩
    subst e
    exact m2 x hx hxn
   ·obtain ⟨y1, y2⟩ := List.mem_filter.1 hy
    obtain ⟨m, m1, m2⟩ := h.lnum y y1
    refine ⟨m, m1, (drop_live h.inv.ok hlive).2 ⟨m2, fun e => ?_⟩⟩
    subst e
    simp [m1] at y2
   ·exact (h.lnd.sublist ((List.filter_sublist).map _))
   ·rw [show (S.T.drop k).cl m = S.T.cl m from drop_cl _ _ m]
    exact h.sem m ((drop_live h.inv.ok hlive).1 hm).1
  have h2 := Holds.forget r h1 ⟨hnr.2, fun k' hk' => by
   obtain ⟨y, hy, hyn, hyr⟩ := G.sub k' (by simp [hk'])
   have hne : k' ≠ (k : Int) := fun e => hnr.1 (by rw [← e]; exact hk')
   refine ⟨y, List.mem_filter.2 ⟨hy, by simp [hyn, hne]⟩, hyn, fun l hl => ?_⟩
   show (S.T.drop k).why l ≠ k'
   rw [drop_why]
   refine hyr l ?_
   obtain ⟨m, m1, m2⟩ := h.lnum y hy
   obtain rfl : k' = (m : Int) := by rw [← hyn]; exact m1
   rw [clauseL_live m2]
   rw [clauseL_live ((drop_live h.inv.ok hlive).2 ⟨m2, fun e => hne (by rw [e])⟩), drop_cl] at hl
   exact hl⟩
  have e : St.forget { S with T := S.T.drop k, learnt := S.learnt.filter fun x => !(x.num == (k : Int)), proof := S.proof ++ [(true, formL (S.T.cl k))] } r = S.forget ((k : Int) :: r) := by
   unfold St.forget dropAll
   simp only [List.foldl_cons, List.map_cons, List.filter_filter, hcl, Option.getD_some]
   congr 1
   ·refine List.filter_congr fun y _ => ?_
    simp only [List.contains_cons, Bool.not_or, Bool.and_comm]
   ·rw [List.append_assoc]
    simp only [List.cons_append, List.nil_append]
    congr 2
    refine List.map_congr_left fun k' hk' => ?_
    obtain ⟨y, hy, hyn, _⟩ := G.sub k' (by simp [hk'])
    obtain ⟨m, m1, m2⟩ := h.lnum y hy
    obtain rfl : k' = (m : Int) := by rw [← hyn]; exact m1
    have hne : m ≠ k := fun e => hnr.1 (by rw [← e]; exact hk')
    rw [clauseL_live m2, clauseL_live ((drop_live h.inv.ok hlive).2 ⟨m2, hne⟩), drop_cl]
  rw [← e]
  exact h2
end
end Sv
namespace Sv
open Tr Cnf Up
theorem fine_live {T : Trail} (h : Tr.Inv T) (hs : T.short = []) (hn : T.next = T.ents.length) {k : Nat} (hk : T.live k) : Fine T.lits T.lits (T.cl k) := by
 have ht := h.top k hk (by rw [hs]; simp)
 have hg := cl_good h.ok hk
 have htk : T.lits.take T.ents.length = T.lits := List.take_of_length_le (by rw [lits_len]; exact Nat.le_refl _)
 rcases ht with ⟨h2, ha, hb⟩ | ⟨h1, hin⟩
 ·rw [hn, htk] at ha hb
  by_cases c1 : -((T.cl k).getD 0 0) ∈ T.lits
  ·exact .inl ⟨_, getD_mem' 0 (by omega), ha c1⟩
  ·by_cases c2 : -((T.cl k).getD 1 0) ∈ T.lits
   ·exact .inl ⟨_, getD_mem' 0 (by omega), hb c2⟩
   ·refine .inr ⟨_, getD_mem' 0 (k := 0) (by omega), _, getD_mem' 0 (k := 1) (by omega), fun e => ?_, c1, c2⟩
    exact good_ne hg (i := 0) (j := 1) (by omega) (by omega) (by omega) (by rw [e])
 ·exact .inl ⟨_, getD_mem' 0 (by omega), hin⟩
theorem asks_spec {T : Trail} : ∀ {qs : List Int}, match asks T qs with
  | some (l, true) => l ∈ qs ∧ T.val l = -1
  | some (l, false) => l ∈ qs ∧ T.val l = 0
  | none => ∀ a ∈ qs, T.val a = 1
 | [] => by simp [asks]
 | l :: r => by
  have ih := asks_spec (T := T) (qs := r)
  unfold asks
  by_cases h1 : T.val l = -1
  ·simp [h1]
  ·by_cases h0 : T.val l = 0
   ·simp [h0]
   ·simp only [if_neg h1, if_neg h0]
    split
    ·rename_i e; rw [e] at ih; exact ⟨by simp [ih.1], ih.2⟩
    ·rename_i e; rw [e] at ih; exact ⟨by simp [ih.1], ih.2⟩
    ·rename_i e; rw [e] at ih
     intro a ha
     rcases List.mem_cons.1 ha with rfl | ha
     ·have := val3 T a; omega
     ·exact ih a ha
theorem coreTo_spec (l : Int) (why : List Int) : ∀ (qs out : List Int), out.Nodup → (coreTo l why qs out).Nodup ∧ ∀ x, x ∈ coreTo l why qs out ↔ x ∈ out ∨ (x ∈ qs ∧ (x = l ∨ x ∈ why))
 | [], out, h => ⟨h, fun x => by simp [coreTo]⟩
 | a :: r, out, h => by
  unfold coreTo
  by_cases hc : ((a == l || why.contains a) && !out.contains a) = true
  ·rw [if_pos hc]
   simp only [Bool.and_eq_true, Bool.or_eq_true, beq_iff_eq, List.contains_iff_mem, Bool.not_eq_true', ← Bool.not_eq_true] at hc
   obtain ⟨i1, i2⟩ := coreTo_spec l why r (out ++ [a]) (by
    rw [List.nodup_append]
    exact ⟨h, by simp, fun x hx y hy e => by
     rw [List.mem_singleton] at hy
     rw [e, hy] at hx; exact hc.2 hx⟩)
   refine ⟨i1, fun x => ?_⟩
   rw [i2, List.mem_append, List.mem_singleton, List.mem_cons]
   constructor
   ·rintro ((h1 | rfl) | ⟨h1, h2⟩)
    ·exact .inl h1
    ·exact .inr ⟨.inl rfl, hc.1⟩
    ·exact .inr ⟨.inr h1, h2⟩
   ·rintro (h1 | ⟨rfl | h1, h2⟩)
    ·exact .inl (.inl h1)
    ·exact .inl (.inr rfl)
    ·exact .inr ⟨h1, h2⟩
  ·rw [if_neg hc]
   obtain ⟨i1, i2⟩ := coreTo_spec l why r out h
   refine ⟨i1, fun x => ?_⟩
   rw [i2]
   simp only [List.mem_cons]
   constructor
   ·rintro (h1 | ⟨h1, h2⟩)
    ·exact .inl h1
    ·exact .inr ⟨.inr h1, h2⟩
   ·rintro (h1 | ⟨rfl | h1, h2⟩)
    ·exact .inl h1
    ·left
     simp only [Bool.and_eq_true, Bool.or_eq_true, beq_iff_eq, List.contains_iff_mem, Bool.not_eq_true', ← Bool.not_eq_true] at hc
     by_cases hx : x ∈ out
     ·exact hx
     ·exact absurd ⟨h2, hx⟩ hc
    ·exact .inr ⟨h1, h2⟩
theorem coreL_spec (qs : List Int) (l : Int) (why : List Int) : (coreL qs l why).Nodup ∧ ∀ x, x ∈ coreL qs l why ↔ x ∈ qs ∧ (x = l ∨ x ∈ why) := by
 obtain ⟨h1, h2⟩ := coreTo_spec l why qs [] List.nodup_nil
 exact ⟨h1, fun x => by unfold coreL; rw [h2]; simp⟩
def DecOk (qs : List Int) (T : Trail) : Prop := ∀ x ∈ T.levels, T.lits.getD x.1 0 ∈ qs ∨ ∀ a ∈ qs, a ∈ T.lits.take x.1
theorem DecOk.foll {qs : List Int} {T T' : Trail} {r : Int} (h : DecOk qs T) (i : Tr.Inv T) (hf : Foll T T' r) : DecOk qs T' := fun x hx => by
 obtain ⟨_, e, _⟩ := foll_post hf i
 rw [e.levels] at hx
 have hl := i.ok.lin x hx
 obtain ⟨rr, hr⟩ := e.lits
 have hlen := lits_len T
 rw [hr, getD_app_l _ _ _ (by omega), List.take_append_of_le_length (by omega)]
 exact h x hx
theorem DecOk.dec {qs : List Int} {T : Trail} (h : DecOk qs T) (i : Tr.Inv T) {l : Int} (hl : l ∈ qs ∨ ∀ a ∈ qs, a ∈ T.lits) : DecOk qs (T.dec l) := fun x hx => by
 have hlen := lits_len T
 have hls : (T.dec l).lits = T.lits ++ [l] := lits_put _ l (-1)
 have hx : x ∈ T.levels ++ [(T.ents.length, T.next)] := hx
 rw [hls]
 rcases List.mem_append.1 hx with hx | hx
 ·have hl := i.ok.lin x hx
  rw [getD_app_l _ _ _ (by omega), List.take_append_of_le_length (by omega)]
  exact h x hx
 ·simp at hx; subst hx
  simp only
  rw [getD_app_r _ _ _ (by omega), List.take_append_of_le_length (by omega), show T.ents.length - T.lits.length = 0 by omega, List.take_of_length_le (by omega)]
  exact hl
theorem DecOk.back {qs : List Int} {T : Trail} (h : DecOk qs T) (i : Tr.Inv T) (k : Int) : DecOk qs (T.back k) := by
 by_cases hk : k.toNat < T.levels.length
 ·have hb : T.back k = T.backTo k.toNat := by unfold Trail.back; rw [if_pos hk]
  rw [hb]
  intro x hx
  have hx : x ∈ T.levels.take k.toNat := hx
  have hlt : x.1 < (T.levels.getD k.toNat (0, 0)).1 := by
   obtain ⟨j, hj, e⟩ := List.getElem_of_mem hx
   rw [List.length_take] at hj
   rw [List.getElem_take] at e
   have hp := i.ok.lev
   rw [List.pairwise_map, List.pairwise_iff_getElem] at hp
   have := hp j k.toNat (by omega) hk (by omega)
   rw [e] at this
   simpa [List.getD_eq_getElem?_getD, hk] using this
  have hle : (T.levels.getD k.toNat (0, 0)).1 < T.ents.length := i.ok.lin _ (getD_mem' _ hk)
  have hlen := lits_len T
  rw [backTo_lits]
  obtain ⟨p, hp⟩ : ∃ p, (T.levels.getD k.toNat (0, 0)).1 = p := ⟨_, rfl⟩
  rw [hp] at hlt hle ⊢
  have e1 : (T.lits.take p).getD x.1 0 = T.lits.getD x.1 0 := by
   simp only [List.getD_eq_getElem?_getD, List.getElem?_take, if_pos hlt]
  rw [e1, List.take_take, Nat.min_eq_left (by omega)]
  exact h x (List.mem_of_mem_take hx)
 ·have hb : T.back k = T := by unfold Trail.back; rw [if_neg hk]
  rw [hb]; exact h
theorem DecOk.start {qs : List Int} {T : Trail} (h : T.levels = []) : DecOk qs T := fun x hx => by rw [h] at hx; cases hx
theorem DecOk.same {qs : List Int} {T U : Trail} (h : DecOk qs T) (e1 : U.levels = T.levels) (e2 : U.ents = T.ents) : DecOk qs U := fun x hx => by
 have : U.lits = T.lits := by unfold Trail.lits; rw [e2]
 rw [this]
 exact h x (by rw [← e1]; exact hx)
theorem dropAll_same : ∀ (gone : List Int) (T : Trail), (dropAll T gone).levels = T.levels ∧ (dropAll T gone).ents = T.ents ∧ (dropAll T gone).cls = T.cls
 | [], T => ⟨rfl, rfl, rfl⟩
 | g :: r, T => by
  obtain ⟨h1, h2, h3⟩ := dropAll_same r (T.drop g)
  obtain ⟨d1, _, d3, d4⟩ := drop_ents T g
  have e : dropAll T (g :: r) = dropAll (T.drop g) r := rfl
  rw [e]
  exact ⟨h1.trans d4, h2.trans d1, h3.trans d3⟩
theorem so_model {T : Trail} (hall : ∀ i : Nat, 1 ≤ i → i ≤ T.n → T.val (i : Int) ≠ 0) {x : Int} (hx : x ≠ 0 ∧ x.natAbs ≤ T.n) (hn : T.n ≤ 65536) : soB x (modelL T) = true ↔ T.val x = 1 := by
 have hl := lit_of hx.1 (show x.natAbs ≤ 65536 by omega)
 have hget : (modelL T).getD (x.natAbs - 1) false = decide (0 < T.val (x.natAbs : Int)) := by
  unfold modelL
  rw [List.getD_eq_getElem?_getD, List.getElem?_map, List.getElem?_range (by omega)]
  simp only [Option.map_some, Option.getD_some]
  rw [show ((x.natAbs - 1 : Nat) : Int) + 1 = (x.natAbs : Int) by omega]
 have h0 := hall x.natAbs (by omega) hx.2
 have h3 := val3 T (x.natAbs : Int)
 unfold soB
 rw [hl.w]
 simp only [Bool.false_eq_true, if_false, hget]
 by_cases hneg : x < 0
 ·rw [if_pos hneg]
  have e : T.val x = -T.val (x.natAbs : Int) := by
   have := Rup.value_negx T.lits (x := (x.natAbs : Int)) (by omega)
   unfold Trail.val
   rw [show x = -(x.natAbs : Int) by omega, Int.natAbs_neg, Int.natAbs_natCast]
   exact this
  rw [e]
  simp only [Bool.not_eq_true', decide_eq_false_iff_not]
  omega
 ·rw [if_neg hneg]
  have e : (x.natAbs : Int) = x := by omega
  rw [e] at h0 h3 ⊢
  simp only [decide_eq_true_eq]
  omega
def Right (n : Nat) (O : List (List Int)) (qs : List Int) : Ans → Prop
 | .sat m _ => m.length = n ∧ Rup.Sat O m ∧ ∀ a ∈ qs, soB a m = true
 | .unsat core _ => core.Nodup ∧ (∀ x ∈ core, x ∈ qs) ∧ ∀ m, Rup.Sat O m → ¬ ∀ x ∈ core, soB x m = true
 | .spent _ => True
theorem settled {T T' : Trail} (h : Foll T T' (-1)) (i : Tr.Inv T) : T'.short = [] ∧ T'.next = T'.ents.length := by
 rcases (foll_post h i).2.2 with ⟨_, h1, h2⟩ | ⟨k, hk, _⟩
 ·exact ⟨h1, h2⟩
 ·omega
theorem why_assumed {qs : List Int} {T : Trail} (i : Tr.Inv T) (hd : DecOk qs T) {l : Int} (hl : l ∈ qs) (hv : -l ∈ T.lits) {u : Int} (hu : u ∈ T.lits) (hw : T.why u = -1) : u ∈ qs := by
 obtain ⟨j, hj, e⟩ := lits_at hu
 have h2 := (at_pos i hj (y := u) (by rw [e])).2
 obtain ⟨x, hx, ex⟩ := (i.dec j hj).1 (by omega)
 rcases hd x hx with h3 | h3
 ·rw [ex, e] at h3; exact h3
 ·exact absurd (i.ok.good.cons (List.mem_of_mem_take (h3 l hl)) hv) id
theorem After.T_eq {pace : Int → Int → Int → Nat → (Int × Int × Int) × Bool × Bool} {S S' : St} (h : After pace S S') : S'.T.cls.length = S.T.cls.length ∧ S'.dead = S.dead := by
 cases h with
 | mk hp hg hn =>
  refine ⟨?_, rfl⟩
  unfold St.forget
  simp only
  rw [(dropAll_same _ _).2.2]
  split
  ·rw [(back_same _ _).1]
  ·rfl
theorem Holds.after {n : Nat} {O : List (List Int)} {S S' : St} (h : Holds n O S) {pace : Int → Int → Int → Nat → (Int × Int × Int) × Bool × Bool} (ha : After pace S S') : Holds n O S' := by
 cases ha with
 | @mk l t k anew fg gone hp hg hn =>
  have h1 : Holds n O { S with T := (if anew then S.T.back 0 else S.T) } := by
   cases anew
   ·exact h
   ·exact h.back 0
  have h2 : Holds n O { S with T := (if anew then S.T.back 0 else S.T), left := l, turns := t, keep := k } := h1.plain l t k S.proof
  refine Holds.forget gone h2 ?_
  cases fg
  ·rw [hn rfl]
   exact ⟨List.nodup_nil, fun k hk => by cases hk⟩
  ·have := hg rfl
   exact ⟨this.nd, this.sub⟩
theorem DecOk.after {qs : List Int} {S S' : St} (h : DecOk qs S.T) (i : Tr.Inv S.T) {pace : Int → Int → Int → Nat → (Int × Int × Int) × Bool × Bool} (ha : After pace S S') : DecOk qs S'.T := by
 cases ha with
 | @mk l t k anew fg gone hp hg hn =>
  obtain ⟨d1, d2, _⟩ := dropAll_same gone (if anew then S.T.back 0 else S.T)
  refine DecOk.same (T := (if anew then S.T.back 0 else S.T)) ?_ d1 d2
  cases anew
  ·exact h
  ·exact h.back i 0
theorem Run.law {pace : Int → Int → Int → Nat → (Int × Int × Int) × Bool × Bool} {qs : List Int} {bud : Int} {n : Nat} {O : List (List Int)} (has : ∀ a ∈ qs, a ≠ 0 ∧ a.natAbs ≤ n) {S S2 : St} {met : Int} {a : Ans} (hR : Run pace qs bud S met S2 a) :
  Holds n O S → DecOk qs S.T → S.T.cls.length + (bud + 1 - met).toNat < 2147483648 → Holds n O S2 ∧ Right n O qs a := by
 induction hR with
 | dead hd =>
  intro h hk hc
  refine ⟨h, List.nodup_nil, (fun x hx => by cases hx), fun m hm _ => ?_⟩
  obtain ⟨x, hx, _⟩ := h.dead hd m hm
  cases hx
 | @core S met T' l hd hf ha =>
  intro h hk hc
  have h1 := h.foll hf
  have sp := asks_spec (T := T') (qs := qs)
  rw [ha] at sp
  obtain ⟨s1, s2⟩ := sp
  have hneg : -l ∈ T'.lits := h1.inv.ok.neg1.1 s2
  obtain ⟨c1, c2⟩ := coreL_spec qs l (T'.whyL (-l))
  obtain ⟨w1, w2, w3⟩ := whyL_law h1.inv (held_iff.2 h1.held) (live_among h1.inv.ok) hneg
  refine ⟨h1.plain _ _ _ _, c1, fun x hx => ((c2 x).1 hx).1, fun m hm hall => ?_⟩
  have hso := Rup.der_so (m := m) (live_lit h1.inv.ok) (fun x hx => hall x ((c2 x).2 ⟨why_assumed h1.inv (hk.foll h.inv hf) s1 hneg (w1 x hx).1 (w1 x hx).2.2, .inr hx⟩)) (live_sat h1.sem hm) w3
  have hl := has l s1
  have hnn := h1.inv.ok.n
  have hT' : T'.n = n := h1.hn
  have hnn : T'.n ≤ 65536 := hnn
  rw [Rup.so_neg (lit_of hl.1 (by omega)), hall l ((c2 l).2 ⟨s1, .inl rfl⟩)] at hso
  cases hso
 | @ask S S2 met T' l a hd hf ha _ ih =>
  intro h hk hc
  have h1 := h.foll hf
  have sp := asks_spec (T := T') (qs := qs)
  rw [ha] at sp
  obtain ⟨s1, s2⟩ := sp
  obtain ⟨_, e, _⟩ := foll_post hf h.inv
  refine ih (h1.dec ?_ s2) ((hk.foll h.inv hf).dec h1.inv (.inl s1)) ?_
  ·show l ≠ 0 ∧ l.natAbs ≤ T'.n
   rw [show T'.n = n from h1.hn]; exact has l s1
  ·show T'.cls.length + _ < _
   rw [e.len]; exact hc
 | @sat S met T' hd hf ha hall =>
  intro h hk hc
  have h1 := h.foll hf
  obtain ⟨q1, q2⟩ := settled hf h.inv
  have sp := asks_spec (T := T') (qs := qs)
  rw [ha] at sp
  have hT' : T'.n = n := h1.hn
  have hnn : T'.n ≤ 65536 := h1.inv.ok.n
  refine ⟨h1, by unfold modelL; simp [hT'], fun c hc => ?_, fun a hA => (so_model hall (by rw [hT']; exact has a hA) hnn).2 (sp a hA)⟩
  obtain ⟨k, k1, _, k3⟩ := h1.orig c hc
  have hg := cl_good h1.inv.ok k1
  have htrue : ∃ x ∈ T'.cl k, x ∈ T'.lits := by
   rcases fine_live h1.inv q1 q2 k1 with h2 | ⟨y, hy, z, hz, _, hny, _⟩
   ·exact h2
   ·refine ⟨y, hy, ?_⟩
    have hly := hg.lit y hy
    have hv := hall y.natAbs (by omega) hly.2
    have h3 := val3 T' y
    have h4 : T'.val y ≠ -1 := fun e => hny (h1.inv.ok.neg1.1 e)
    have h5 : T'.val y ≠ 0 := fun e => by
     unfold Trail.val at e hv
     obtain ⟨a1, a2⟩ := Up.value_zero.1 e
     apply hv
     rw [Up.value_zero]
     rcases Int.natAbs_eq y with e2 | e2
     ·rw [← e2]; exact ⟨a1, a2⟩
     ·rw [show (y.natAbs : Int) = -y by omega, Int.neg_neg]; exact ⟨a2, a1⟩
    exact h1.inv.ok.one.1 (by show T'.val y = 1; omega)
  obtain ⟨x, hx, hxl⟩ := htrue
  exact ⟨x, k3.mem_iff.2 hx, (so_model hall (hg.lit x hx) hnn).2 (h1.inv.ok.one.2 hxl)⟩
 | @pick S S2 met T' l a hd hf ha hl hv _ ih =>
  intro h hk hc
  have h1 := h.foll hf
  have sp := asks_spec (T := T') (qs := qs)
  rw [ha] at sp
  obtain ⟨_, e, _⟩ := foll_post hf h.inv
  refine ih (h1.dec hl hv) ((hk.foll h.inv hf).dec h1.inv (.inr fun a hA => h1.inv.ok.one.1 (sp a hA))) ?_
  show T'.cls.length + _ < _
  rw [e.len]; exact hc
 | @done S met T' k hd hf hk0 hl =>
  intro h hk hc
  have h1 := h.foll hf
  obtain ⟨_, _, hq⟩ := foll_post hf h.inv
  rcases hq with ⟨e, _⟩ | ⟨k', rfl, hlive, hneg⟩
  ·omega
  have he : Ent O [] := by
   rcases h1.taught hlive hneg with ⟨_, h2⟩ | ⟨_, _, _, _, h2, _⟩
   ·exact h2
   ·have h2 : T'.lesson (k' : Int) = some (some _) := h2
    rcases hl with hl | hl <;> rw [hl] at h2 <;> simp at h2
  refine ⟨⟨h1.inv, h1.hn, h1.held, h1.orig, h1.lnum, h1.lnd, h1.sem, fun _ => he⟩, List.nodup_nil, (fun x hx => by cases hx), fun m hm _ => ?_⟩
  obtain ⟨x, hx, _⟩ := he m hm
  cases hx
 | @spent S met T' k L hd hf hk0 hl hb =>
  intro h hk hc
  have h1 := h.foll hf
  obtain ⟨_, ex, hq⟩ := foll_post hf h.inv
  rcases hq with ⟨e, _⟩ | ⟨k', rfl, hlive, hneg⟩
  ·omega
  refine ⟨?_, trivial⟩
  rcases h1.taught hlive hneg with ⟨h2, _⟩ | ⟨top, first, rest, atoms, h2, _, W, hE⟩
  ·have h2 : T'.lesson (k' : Int) = some none := h2
   rw [hl] at h2; simp at h2
  ·have h2 : T'.lesson (k' : Int) = some (some _) := h2
   rw [hl] at h2
   have hL : L.clause = first :: rest := by simp only [Option.some.injEq] at h2; rw [h2]
   refine Holds.learn h1 hL W hE ?_
   show T'.cls.length < _
   rw [ex.len]; omega
 | @on S S1 S2 met T' k L a hd hf hk0 hl hb haf _ ih =>
  intro h hk hc
  have h1 := h.foll hf
  obtain ⟨_, ex, hq⟩ := foll_post hf h.inv
  rcases hq with ⟨e, _⟩ | ⟨k', rfl, hlive, hneg⟩
  ·omega
  rcases h1.taught hlive hneg with ⟨h2, _⟩ | ⟨top, first, rest, atoms, h2, _, W, hE⟩
  ·have h2 : T'.lesson (k' : Int) = some none := h2
   rw [hl] at h2; simp at h2
  ·have h2 : T'.lesson (k' : Int) = some (some _) := h2
   rw [hl] at h2
   have hL : L.clause = first :: rest := by simp only [Option.some.injEq] at h2; rw [h2]
   have hcl : T'.cls.length < 2147483648 := by rw [ex.len]; omega
   have h3 := Holds.learn h1 hL W hE hcl
   obtain ⟨f1, f2, f3⟩ := taught_form h1.inv W L.back
   have hT3 : (St.learn { S with T := T' } L).T = (T'.back L.back).add (formL (first :: rest)) := by unfold St.learn; simp only [hL]; exact f2
   have hd3 : DecOk qs (St.learn { S with T := T' } L).T := by
    rw [hT3]
    exact DecOk.same ((hk.foll h.inv hf).back h1.inv L.back) rfl rfl
   refine ih (h3.after haf) (hd3.after h3.inv haf) ?_
   rw [haf.T_eq.1, hT3]
   have e1 : ((T'.back L.back).add (formL (first :: rest))).cls.length = S.T.cls.length + 1 := by
    show ((T'.back L.back).cls ++ [formL (first :: rest)]).length = _
    rw [List.length_append, (back_same T' L.back).1, ex.len]; rfl
   rw [e1]
   omega
end Sv
namespace Sv
open Tr Cnf Up
def bits : Nat → List (Int × Nat × Int) → Nat
 | _, [] => 0
 | n, e :: r => (if e.2.2 = -1 then 0 else 2 ^ (n - 1)) + bits (n - 1) r
theorem bits_le : ∀ (es : List (Int × Nat × Int)) (n : Nat), es.length ≤ n → bits n es + 2 ^ (n - es.length) ≤ 2 ^ n
 | [], n, _ => by simp [bits]
 | e :: r, n, h => by
  simp only [List.length_cons] at h
  obtain ⟨m, rfl⟩ : ∃ m, n = m + 1 := ⟨n - 1, by omega⟩
  have ih := bits_le r m (by omega)
  unfold bits
  simp only [List.length_cons, Nat.add_sub_cancel, Nat.add_sub_add_right]
  have h2 : 2 ^ (m + 1) = 2 ^ m + 2 ^ m := by rw [Nat.pow_succ]; omega
  have h3 := Nat.pow_pos (n := m) (show 0 < 2 by decide)
  split <;> omega
theorem bits_app : ∀ (a b : List (Int × Nat × Int)) (n : Nat), bits n (a ++ b) = bits n a + bits (n - a.length) b
 | [], b, n => by simp [bits]
 | e :: r, b, n => by
  have ih := bits_app r b (n - 1)
  simp only [List.cons_append, bits, List.length_cons]
  rw [ih, show n - 1 - r.length = n - (r.length + 1) by omega]
  omega
theorem bits_turn {n : Nat} {es : List (Int × Nat × Int)} {p : Nat} (hp : p < es.length) (hd : (es.getD p (0, 0, 0)).2.2 = -1) (hn : es.length ≤ n) :
  bits n es + 2 ^ (n - es.length) ≤ bits n (es.take p) + 2 ^ (n - 1 - p) := by
 have hs : es = es.take p ++ es.getD p (0, 0, 0) :: es.drop (p + 1) := by
  conv => lhs; rw [← List.take_append_drop p es]
  congr 1
  rw [List.drop_eq_getElem_cons hp]
  simp [List.getD_eq_getElem?_getD, hp]
 have hl : (es.take p).length = p := by rw [List.length_take]; omega
 have h1 : bits n es = bits n (es.take p) + bits (n - p) (es.getD p (0, 0, 0) :: es.drop (p + 1)) := by
  conv => lhs; rw [hs]
  rw [bits_app, hl]
 have h2 := bits_le (es.drop (p + 1)) (n - p - 1) (by rw [List.length_drop]; omega)
 rw [List.length_drop] at h2
 rw [h1]
 unfold bits
 rw [if_pos hd]
 rw [show n - p - 1 - (es.length - (p + 1)) = n - es.length by omega] at h2
 rw [show n - 1 - p = n - p - 1 by omega]
 omega
theorem pow_half {a : Nat} (h : 0 < a) : 2 ^ (a - 1) + 1 ≤ 2 ^ a ∧ 2 ^ (a - 1) + 2 ^ (a - 1) = 2 ^ a := by
 obtain ⟨m, rfl⟩ : ∃ m, a = m + 1 := ⟨a - 1, by omega⟩
 simp only [Nat.add_sub_cancel]
 have h1 : 2 ^ (m + 1) = 2 ^ m + 2 ^ m := by rw [Nat.pow_succ]; omega
 have h2 := Nat.pow_pos (n := m) (show 0 < 2 by decide)
 omega
def far (n : Nat) (T : Trail) (q : Bool) : Nat := bits n T.ents + if q then 2 ^ (n - 1 - T.ents.length) else 0
def Waits (T : Trail) : Prop := (∃ k, T.live k ∧ ¬ Fine T.lits T.lits (T.cl k)) ∧ T.ents.length < T.n
theorem ents_le {T : Trail} (i : Tr.Inv T) : T.ents.length ≤ T.n := by have := i.ok.good.len; rw [lits_len] at this; exact this
theorem foll_reason {T T' : Trail} {r : Int} (h : Foll T T' r) (i : Tr.Inv T) {p : Nat} (h1 : T.ents.length ≤ p) (h2 : p < T'.ents.length) : (T'.ent p).2.2 ≠ -1 := fun e => by
 obtain ⟨i', ex, _⟩ := foll_post h i
 obtain ⟨x, hx, e2⟩ := (i'.dec p h2).1 e
 rw [ex.levels] at hx
 have := i.ok.lin x hx
 omega
theorem foll_far {T T' : Trail} {r : Int} (h : Foll T T' r) (i : Tr.Inv T) (q : Bool) (hq : q = true → Waits T) :
  bits T.n T.ents ≤ bits T.n T'.ents ∧ (T.ents.length < T'.ents.length → far T.n T q ≤ bits T.n T'.ents) ∧ (r = -1 → far T.n T q ≤ bits T.n T'.ents) := by
 obtain ⟨i', ex, hend⟩ := foll_post h i
 obtain ⟨es, hes⟩ := ex.ents
 have hb : bits T.n T'.ents = bits T.n T.ents + bits (T.n - T.ents.length) es := by rw [hes, bits_app]
 have hgrow : T.ents.length < T'.ents.length → far T.n T q ≤ bits T.n T'.ents := fun hlt => by
  have hr := foll_reason h i (Nat.le_refl _) hlt
  rw [hes, List.length_append] at hlt
  match es, hes, hlt with
  | [], _, hlt => simp at hlt
  | x :: es, hes, hlt =>
   have he : T'.ent T.ents.length = x := by
    unfold Trail.ent
    rw [hes, getD_app_r _ _ _ (Nat.le_refl _)]; simp
   rw [he] at hr
   have e1 : T.n - T.ents.length - 1 = T.n - 1 - T.ents.length := by omega
   have hbc : bits (T.n - T.ents.length) (x :: es) = 2 ^ (T.n - T.ents.length - 1) + bits (T.n - T.ents.length - 1) es := by
    show (if x.2.2 = -1 then 0 else 2 ^ (T.n - T.ents.length - 1)) + _ = _
    rw [if_neg hr]
   rw [e1] at hbc
   have hb2 : bits T.n T'.ents = bits T.n T.ents + bits (T.n - T.ents.length) (x :: es) := by rw [hes, bits_app]
   rw [hb2, hbc]
   unfold far
   generalize 2 ^ (T.n - 1 - T.ents.length) = p
   split <;> omega
 refine ⟨by omega, hgrow, fun hr => ?_⟩
 subst hr
 by_cases hlt : T.ents.length < T'.ents.length
 ·exact hgrow hlt
 ·have hnil : es = [] := by
   rw [hes, List.length_append] at hlt
   exact List.eq_nil_of_length_eq_zero (by omega)
  subst hnil
  rw [List.append_nil] at hes
  cases q with
  | false => unfold far; rw [hes]; simp
  | true =>
   exfalso
   obtain ⟨⟨k, hk, hf⟩, _⟩ := hq rfl
   obtain ⟨s1, s2⟩ := settled h i
   have hfl := fine_live i' s1 s2 ((ex.live k).2 hk)
   have hl : T'.lits = T.lits := by unfold Trail.lits; rw [hes]
   rw [hl] at hfl
   exact hf (fine_mem (fun y => (ex.perm k).mem_iff) hfl)
theorem learn_far {n : Nat} {O : List (List Int)} {S : St} {T' : Trail} {k : Int} {L : Less} (h : Holds n O S) {q : Bool} (hq : q = true → Waits S.T) (hf : Foll S.T T' k) (hk : 0 ≤ k) (hl : T'.lesson k = some (some L)) :
  far n S.T q + 1 ≤ far n (({ S with T := T' } : St).learn L).T true ∧ Waits (({ S with T := T' } : St).learn L).T ∧ (({ S with T := T' } : St).learn L).T.n = n := by
 have h1 := h.foll hf
 obtain ⟨i', ex, hend⟩ := foll_post hf h.inv
 rcases hend with ⟨e, _⟩ | ⟨k', rfl, hlive, hneg⟩
 ·omega
 rcases h1.taught hlive hneg with ⟨h2, _⟩ | ⟨top, first, rest, atoms, h2, htop, W, hE⟩
 ·have h2 : T'.lesson (k' : Int) = some none := h2
  rw [hl] at h2; simp at h2
 have h2 : T'.lesson (k' : Int) = some (some _) := h2
 rw [hl] at h2
 have hL : L.clause = first :: rest ∧ L.back = rest.foldl (fun b l => max b (T'.lvl l)) 0 := by simp only [Option.some.injEq] at h2; rw [h2]; exact ⟨rfl, rfl⟩
 obtain ⟨b1, b2, b3⟩ := rest_max T' rest top W.lrest htop
 rw [← hL.2] at b1 b2 b3
 have hl1 : T'.lvl first = top := W.ltop
 have hl2 := (lvl_le i' (W.neg first (by simp))).2
 obtain ⟨b, hb⟩ : ∃ b : Nat, L.back = b := ⟨L.back.toNat, by omega⟩
 have hblt : b < T'.levels.length := by omega
 have hbk : T'.back L.back = T'.backTo b := by rw [hb]; unfold Trail.back; rw [if_pos (by simpa using hblt)]; simp
 obtain ⟨f1, f2, f3⟩ := taught_form i' W L.back
 have hT2 : (({ S with T := T' } : St).learn L).T = (T'.backTo b).add (formL (first :: rest)) := by
  unfold St.learn
  simp only [hL.1]
  rw [← hbk]; exact f2
 have hn' : T'.n = n := h1.hn
 obtain ⟨p, hpe⟩ : ∃ p, (T'.levels.getD b (0, 0)).1 = p := ⟨_, rfl⟩
 have hmem : T'.levels.getD b (0, 0) ∈ T'.levels := getD_mem' _ hblt
 have hp : p < T'.ents.length := by rw [← hpe]; exact i'.ok.lin _ hmem
 have hdec : (T'.ent p).2.2 = -1 := (i'.dec p hp).2 ⟨_, hmem, hpe⟩
 have hents : ((T'.backTo b).add (formL (first :: rest))).ents = T'.ents.take p := by rw [← hpe]; rfl
 have hle := ents_le i'
 have hlen : (T'.ents.take p).length = p := by rw [List.length_take]; omega
 have hturn := bits_turn (n := n) hp hdec (by omega)
 have hbn : ((T'.backTo b).add (formL (first :: rest))).n = n := hn'
 rw [hT2]
 have hsn := h.hn
 refine ⟨?_, ⟨⟨T'.cls.length, ?_, ?_⟩, ?_⟩, hbn⟩
 ·obtain ⟨g1, g2, _⟩ := foll_far hf h.inv q hq
  rw [hsn] at g1 g2
  have hfar2 : far n ((T'.backTo b).add (formL (first :: rest))) true = bits n (T'.ents.take p) + 2 ^ (n - 1 - p) := by
   unfold far
   rw [hents, hlen]
   simp
  rw [hfar2]
  have hpos := Nat.pow_pos (n := n - T'.ents.length) (show 0 < 2 by decide)
  by_cases hlt : S.T.ents.length < T'.ents.length
  ·have := g2 hlt; omega
  ·obtain ⟨es, hes⟩ := ex.ents
   have hll : T'.ents.length = S.T.ents.length := by rw [hes, List.length_append] at hlt ⊢; omega
   cases q with
   | false => unfold far; simp only [Bool.false_eq_true, if_false]; omega
   | true =>
    have hw := (hq rfl).2
    rw [hsn] at hw
    unfold far
    simp only [if_true]
    obtain ⟨p1, p2⟩ := pow_half (a := n - S.T.ents.length) (by omega)
    rw [show n - S.T.ents.length - 1 = n - 1 - S.T.ents.length by omega] at p1
    rw [hll] at hturn
    omega
 ·have hbl := (back_same T' L.back).1
  rw [hbk] at hbl
  rw [← hbl]
  exact (add_live (i'.backTo hblt).ok _ _).2 (.inr rfl)
 ·have hbl := (back_same T' L.back).1
  rw [hbk] at hbl
  have hcl : ((T'.backTo b).add (formL (first :: rest))).cl T'.cls.length = formL (first :: rest) := by rw [← hbl]; exact add_new _ _
  have hlits : ((T'.backTo b).add (formL (first :: rest))).lits = (T'.backTo b).lits := rfl
  rw [hcl, hlits]
  have ob := (i'.backTo hblt).ok
  have hv : ∀ y ∈ first :: rest, (T'.backTo b).val y = if T'.lvl y ≤ (b : Int) then -1 else 0 := fun y hy => by
   rw [← hbk, hb]; exact back_val i' hblt (W.neg y hy)
  have hvf : (T'.backTo b).val first = 0 := by rw [hv first (by simp), if_neg (by omega)]
  have hvr : ∀ y ∈ rest, -y ∈ (T'.backTo b).lits := fun y hy => by
   refine ob.neg1.1 ?_
   rw [hv y (by simp [hy]), if_pos (by rw [← hb]; exact b3 y hy)]
  have hf0 : first ∉ (T'.backTo b).lits ∧ -first ∉ (T'.backTo b).lits := by unfold Trail.val at hvf; exact Up.value_zero.1 hvf
  rintro (⟨y, hy, hyl⟩ | ⟨y, hy, z, hz, hne, h3, h4⟩)
  ·rcases List.mem_cons.1 ((mem_formL _ _).1 hy) with rfl | hy
   ·exact hf0.1 hyl
   ·exact ob.good.cons hyl (hvr y hy)
  ·rcases List.mem_cons.1 ((mem_formL _ _).1 hy) with rfl | hy
   ·rcases List.mem_cons.1 ((mem_formL _ _).1 hz) with rfl | hz
    ·exact hne rfl
    ·exact h4 (hvr z hz)
   ·exact h3 (hvr y hy)
 ·rw [hents, hlen, hbn]; omega
theorem far_lt {n : Nat} {T : Trail} (hn : T.ents.length ≤ n) (q : Bool) (hq : q = true → T.ents.length < n) : far n T q < 2 ^ n := by
 have h1 := bits_le T.ents n hn
 unfold far
 cases q with
 | false =>
  have := Nat.pow_pos (n := n - T.ents.length) (show 0 < 2 by decide)
  simp only [Bool.false_eq_true, if_false]; omega
 | true =>
  obtain ⟨p1, _⟩ := pow_half (a := n - T.ents.length) (by have := hq rfl; omega)
  rw [show n - T.ents.length - 1 = n - 1 - T.ents.length by omega] at p1
  simp only [if_true]; omega
end Sv
namespace Sv
open Tr Cnf Up
def rowF : Nat → Nat → Nat
 | 0, _ => 0
 | f + 1, n => if n + 1 = 2 ^ (Nat.log2 n + 1) then 2 ^ Nat.log2 n else rowF f (n - (2 ^ Nat.log2 n - 1))
def row (n : Nat) : Nat := rowF n n
def sumRow : Nat → Nat
 | 0 => 0
 | t + 1 => sumRow t + row (t + 1)
def keepK : Nat → Int
 | 0 => 300
 | f + 1 => keepK f + (keepK f / 2 + 1)
def paceF (left turns keep : Int) (len : Nat) : (Int × Int × Int) × Bool × Bool :=
 ((if left - 1 = 0 then 32 * (row (turns + 2).toNat : Int) else left - 1, if left - 1 = 0 then turns + 1 else turns, if keep < (len : Int) then keep + min (keep / 2 + 1) (9223372036854775807 - keep) else keep), decide (left - 1 = 0), decide (keep < (len : Int)))
theorem sumRow_all : sumRow 2046 = 10240 := by decide +kernel
theorem row_2047 : row 2047 = 1024 := by decide +kernel
theorem sumRow_mono {a b : Nat} (h : a ≤ b) : sumRow a ≤ sumRow b := by
 induction b with
 | zero =>
  obtain rfl : a = 0 := by omega
  exact Nat.le_refl _
 | succ b ih =>
  by_cases e : a = b + 1
  ·subst e; exact Nat.le_refl _
  ·have := ih (by omega)
   show sumRow a ≤ sumRow b + row (b + 1)
   omega
theorem keepK_20 : 400000 ≤ keepK 20 := by decide +kernel
theorem keepK_pos : ∀ f, 300 ≤ keepK f
 | 0 => Int.le_refl _
 | f + 1 => by have := keepK_pos f; unfold keepK; omega
theorem keepK_mono {a b : Nat} (h : a ≤ b) : keepK a ≤ keepK b := by
 induction b with
 | zero =>
  obtain rfl : a = 0 := by omega
  exact Int.le_refl _
 | succ b ih =>
  by_cases e : a = b + 1
  ·subst e; exact Int.le_refl _
  ·have := ih (by omega)
   have := keepK_pos b
   show keepK a ≤ keepK b + (keepK b / 2 + 1)
   omega
structure Tm (n : Nat) (S : St) (met : Int) (c f : Nat) (q : Bool) : Prop where
 hc : c ≤ 1024 * f + far n S.T q
 hq : q = true → Waits S.T
 left : S.left = 32 * (row (S.turns.toNat + 1) : Int) - c
 t0 : 0 ≤ S.turns ∧ S.turns ≤ 2046
 hm : met = 32 * (sumRow S.turns.toNat : Int) + c
 keep : S.keep = keepK f
 hf : f ≤ 20
 len : (S.learnt.length : Int) ≤ met
theorem pow10 {n : Nat} (h : n ≤ 10) : 2 ^ n ≤ 1024 := Nat.pow_le_pow_right (by decide) h
theorem Tm.small {n : Nat} (hn : n ≤ 10) {S : St} {met : Int} {c f : Nat} {q : Bool} (h : Tm n S met c f q) (i : Tr.Inv S.T) (hT : S.T.n = n) : c ≤ 21503 ∧ met ≤ 349183 := by
 have h1 := far_lt (n := n) (T := S.T) (by rw [← hT]; exact ents_le i) q (fun e => by have := (h.hq e).2; omega)
 have h2 := pow10 hn
 have h3 := h.hc
 have h4 := h.hf
 have h5 := sumRow_mono (a := S.turns.toNat) (b := 2046) (by have := h.t0; omega)
 rw [sumRow_all] at h5
 have h6 := h.hm
 omega
theorem Tm.to {n : Nat} {S : St} {met : Int} {c f : Nat} {q : Bool} (h : Tm n S met c f q) {T' : Trail} (hle : far n S.T q ≤ far n T' false) : Tm n { S with T := T' } met c f false :=
 ⟨Nat.le_trans h.hc (by show 1024 * f + far n S.T q ≤ 1024 * f + far n T' false; omega), (fun e => by cases e), h.left, h.t0, h.hm, h.keep, h.hf, h.len⟩
theorem far_dec {n : Nat} {T : Trail} (l : Int) : far n T false ≤ far n (T.dec l) false := by
 unfold far
 have : (T.dec l).ents = T.ents ++ [(l, (T.levels ++ [(T.ents.length, T.next)]).length, -1)] := rfl
 rw [this, bits_app]
 simp
theorem forget_nil (S : St) : S.forget [] = S := by
 have e : (S.learnt.filter fun x => !([] : List Int).contains x.num) = S.learnt := List.filter_eq_self.2 fun x _ => by simp
 unfold St.forget dropAll
 rw [e]
 simp
theorem Tm.after {n : Nat} (hn : n ≤ 10) {S S1 : St} {met : Int} {c f : Nat} (i : Tr.Inv S.T) (hT : S.T.n = n) (hc : c + 1 ≤ 1024 * f + far n S.T true) (hq : Waits S.T) (left : S.left = 32 * (row (S.turns.toNat + 1) : Int) - c)
  (t0 : 0 ≤ S.turns ∧ S.turns ≤ 2046) (hmet : met = 32 * (sumRow S.turns.toNat : Int) + c) (hkeep : S.keep = keepK f) (hf : f ≤ 20) (hlen : (S.learnt.length : Int) ≤ met + 1) (ha : After paceF S S1) : ∃ c' f' q', Tm n S1 (met + 1) c' f' q' := by
 have h1 := far_lt (n := n) (T := S.T) (by rw [← hT]; exact ents_le i) true (fun e => by have := hq.2; omega)
 have h2 := pow10 hn
 have h5 := sumRow_mono (a := S.turns.toNat) (b := 2046) (by omega)
 rw [sumRow_all] at h5
 have hk0 := keepK_pos f
 have hk1 : keepK f < (S.learnt.length : Int) → f < 20 := fun h => by
  by_cases e : f < 20
  ·exact e
  ·have := keepK_mono (a := 20) (b := f) (by omega)
   have := keepK_20
   omega
 have hk2 : keepK f ≤ 10000000 := by
  have h := keepK_mono hf
  have : keepK 20 ≤ 10000000 := by decide +kernel
  omega
 cases ha with
 | @mk l t k anew fg gone hp hg hgn =>
  unfold paceF at hp
  simp only [Prod.mk.injEq] at hp
  obtain ⟨⟨p1, p2, p3⟩, p4, p5⟩ := hp
  have hturn : S.left - 1 = 0 → S.turns ≠ 2046 := fun e e2 => by
   rw [e2] at left
   have : row ((2046 : Int).toNat + 1) = 1024 := row_2047
   rw [this] at left
   omega
  by_cases ha : S.left - 1 = 0
  ·-- a new turn
   rw [if_pos ha] at p1 p2
   rw [decide_eq_true ha] at p4
   subst p1 p2 p4
   have hne := hturn ha
   have e1 : (S.turns + 1).toNat = S.turns.toNat + 1 := by omega
   have e2 : (S.turns + 2).toNat = S.turns.toNat + 1 + 1 := by omega
   have hsum : sumRow (S.turns.toNat + 1) = sumRow S.turns.toNat + row (S.turns.toNat + 1) := rfl
   by_cases hfg : S.keep < (S.learnt.length : Int)
   ·rw [if_pos hfg] at p3
    rw [decide_eq_true hfg] at p5
    subst p3 p5
    refine ⟨0, f + 1, false, Nat.zero_le _, (fun e => by cases e), ?_, ?_, ?_, ?_, by have := hk1 (by omega); omega, ?_⟩
    ·show (32 * (row (S.turns + 2).toNat : Int)) = 32 * (row ((S.turns + 1).toNat + 1) : Int) - (0 : Nat)
     rw [e1, e2]; omega
    ·show 0 ≤ S.turns + 1 ∧ S.turns + 1 ≤ 2046; omega
    ·show met + 1 = 32 * (sumRow (S.turns + 1).toNat : Int) + (0 : Nat)
     rw [e1, hsum]; omega
    ·show S.keep + min (S.keep / 2 + 1) (9223372036854775807 - S.keep) = keepK (f + 1)
     rw [hkeep]
     show _ = keepK f + (keepK f / 2 + 1)
     rw [Int.min_eq_left (by omega)]
    ·show ((S.learnt.filter _).length : Int) ≤ _
     have := List.length_filter_le (fun x : Note => !gone.contains x.num) S.learnt
     omega
   ·rw [if_neg hfg] at p3
    rw [decide_eq_false hfg] at p5
    subst p3 p5
    obtain rfl := hgn rfl
    rw [forget_nil]
    refine ⟨0, f, false, Nat.zero_le _, (fun e => by cases e), ?_, ?_, ?_, hkeep, hf, hlen⟩
    ·show (32 * (row (S.turns + 2).toNat : Int)) = 32 * (row ((S.turns + 1).toNat + 1) : Int) - (0 : Nat)
     rw [e1, e2]; omega
    ·show 0 ≤ S.turns + 1 ∧ S.turns + 1 ≤ 2046; omega
    ·show met + 1 = 32 * (sumRow (S.turns + 1).toNat : Int) + (0 : Nat)
     rw [e1, hsum]; omega
  ·rw [if_neg ha] at p1 p2
   rw [decide_eq_false ha] at p4
   subst p1 p2 p4
   by_cases hfg : S.keep < (S.learnt.length : Int)
   ·rw [if_pos hfg] at p3
    rw [decide_eq_true hfg] at p5
    subst p3 p5
    refine ⟨c + 1, f + 1, false, by omega, (fun e => by cases e), ?_, t0, ?_, ?_, by have := hk1 (by omega); omega, ?_⟩
    ·show S.left - 1 = 32 * (row (S.turns.toNat + 1) : Int) - ((c + 1 : Nat) : Int)
     omega
    ·show met + 1 = 32 * (sumRow S.turns.toNat : Int) + ((c + 1 : Nat) : Int)
     omega
    ·show S.keep + min (S.keep / 2 + 1) (9223372036854775807 - S.keep) = keepK (f + 1)
     rw [hkeep]
     show _ = keepK f + (keepK f / 2 + 1)
     rw [Int.min_eq_left (by omega)]
    ·show ((S.learnt.filter _).length : Int) ≤ _
     have := List.length_filter_le (fun x : Note => !gone.contains x.num) S.learnt
     omega
   ·rw [if_neg hfg] at p3
    rw [decide_eq_false hfg] at p5
    subst p3 p5
    obtain rfl := hgn rfl
    rw [forget_nil]
    refine ⟨c + 1, f, true, hc, (fun _ => hq), ?_, t0, ?_, hkeep, hf, hlen⟩
    ·show S.left - 1 = 32 * (row (S.turns.toNat + 1) : Int) - ((c + 1 : Nat) : Int)
     omega
    ·show met + 1 = 32 * (sumRow S.turns.toNat : Int) + ((c + 1 : Nat) : Int)
     omega
theorem Run.ends {qs : List Int} {n : Nat} {O : List (List Int)} (hn : n ≤ 10) (has : ∀ a ∈ qs, a ≠ 0 ∧ a.natAbs ≤ n) {S S2 : St} {met : Int} {a : Ans} (hR : Run paceF qs 1048576 S met S2 a) :
  Holds n O S → S.T.cls.length + (1048576 + 1 - met).toNat < 2147483648 → (∃ c f q, Tm n S met c f q) → ∀ m, a ≠ .spent m := by
 induction hR with
 | dead hd => intro _ _ _ m e; cases e
 | core hd hf ha => intro _ _ _ m e; cases e
 | sat hd hf ha hall => intro _ _ _ m e; cases e
 | done hd hf hk hl => intro _ _ _ m e; cases e
 | @ask S S2 met T' l a hd hf ha _ ih =>
  intro h hc ⟨c, f, q, t⟩
  have h1 := h.foll hf
  have sp := asks_spec (T := T') (qs := qs)
  rw [ha] at sp
  obtain ⟨s1, s2⟩ := sp
  obtain ⟨_, e, _⟩ := foll_post hf h.inv
  have hfar := (foll_far hf h.inv q t.hq).2.2 rfl
  rw [h.hn] at hfar
  refine ih (h1.dec ?_ s2) ?_ ⟨c, f, false, t.to (T' := T'.dec l) ?_⟩
  ·show l ≠ 0 ∧ l.natAbs ≤ T'.n
   rw [show T'.n = n from h1.hn]; exact has l s1
  ·show T'.cls.length + _ < _
   rw [e.len]; exact hc
  ·refine Nat.le_trans hfar (Nat.le_trans ?_ (far_dec l))
   unfold far; simp
 | @pick S S2 met T' l a hd hf ha hl hv _ ih =>
  intro h hc ⟨c, f, q, t⟩
  have h1 := h.foll hf
  obtain ⟨_, e, _⟩ := foll_post hf h.inv
  have hfar := (foll_far hf h.inv q t.hq).2.2 rfl
  rw [h.hn] at hfar
  refine ih (h1.dec hl hv) ?_ ⟨c, f, false, t.to (T' := T'.dec l) ?_⟩
  ·show T'.cls.length + _ < _
   rw [e.len]; exact hc
  ·refine Nat.le_trans hfar (Nat.le_trans ?_ (far_dec l))
   unfold far; simp
 | @spent S met T' k L hd hf hk0 hl hb =>
  intro h hc ⟨c, f, q, t⟩ m _
  have := (t.small hn h.inv h.hn).2
  omega
 | @on S S1 S2 met T' k L a hd hf hk0 hl hb haf _ ih =>
  intro h hc ⟨c, f, q, t⟩
  have h1 := h.foll hf
  obtain ⟨_, ex, hq⟩ := foll_post hf h.inv
  obtain ⟨f1, f2, f3⟩ := learn_far h t.hq hf hk0 hl
  rcases hq with ⟨e, _⟩ | ⟨k', rfl, hlive, hneg⟩
  ·omega
  rcases h1.taught hlive hneg with ⟨h2, _⟩ | ⟨top, first, rest, atoms, h2, _, W, hE⟩
  ·have h2 : T'.lesson (k' : Int) = some none := h2
   rw [hl] at h2; simp at h2
  ·have h2 : T'.lesson (k' : Int) = some (some _) := h2
   rw [hl] at h2
   have hL : L.clause = first :: rest := by simp only [Option.some.injEq] at h2; rw [h2]
   have hcl : T'.cls.length < 2147483648 := by rw [ex.len]; omega
   have h3 := Holds.learn h1 hL W hE hcl
   have hlen3 : (St.learn { S with T := T' } L).T.cls.length = S.T.cls.length + 1 := by
    obtain ⟨_, g2, _⟩ := taught_form h1.inv W L.back
    have hT3 : (St.learn { S with T := T' } L).T = (T'.back L.back).add (formL (first :: rest)) := by unfold St.learn; simp only [hL]; exact g2
    rw [hT3]
    show ((T'.back L.back).cls ++ [formL (first :: rest)]).length = _
    rw [List.length_append, (back_same T' L.back).1, ex.len]; rfl
   refine ih (h3.after haf) ?_ ?_
   ·rw [haf.T_eq.1, hlen3]
    omega
   ·refine Tm.after hn (S := St.learn { S with T := T' } L) (met := met) (c := c) (f := f) h3.inv f3 (by have := t.hc; omega) f2 t.left t.t0 t.hm t.keep t.hf ?_ haf
    show ((S.learnt ++ [_]).length : Int) ≤ met + 1
    have := t.len
    rw [List.length_append]
    simp only [List.length_singleton]
    omega
end Sv
namespace Sv
open Tr Cnf Up
def kept1 (n : Nat) (c : List Int) : List (List Int) := match form c with
 | some f => if f.all (fun x => decide (x ≠ 0 ∧ x.natAbs ≤ n)) then [f] else []
 | none => []
def keptAll (n : Nat) (css : List (List Int)) : List (List Int) := css.flatMap (kept1 n)
theorem keptAll_snoc (n : Nat) (css : List (List Int)) (c : List Int) : keptAll n (css ++ [c]) = keptAll n css ++ kept1 n c := by
 unfold keptAll; rw [List.flatMap_append]; simp
def St.new (n : Nat) : St := ⟨Tr.new n, [], 32, 0, 300, false, []⟩
def St.add (S : St) (c : List Int) : St := { S with T := (S.T.back 0).addX c }
def St.addAll (S : St) (css : List (List Int)) : St := css.foldl St.add S
theorem addAll_snoc' (S : St) (css : List (List Int)) (c : List Int) : S.addAll (css ++ [c]) = (S.addAll css).add c := by
 unfold St.addAll; rw [List.foldl_append]; rfl
theorem Ent.mono {O P : List (List Int)} {c : List Int} (h : Ent O c) (hs : ∀ d ∈ O, d ∈ P) : Ent P c := fun m hm => h m fun d hd => hm d (hs d hd)
theorem Holds.new {n : Nat} (hn : n ≤ 65536) : Holds n [] (St.new n) := by
 have hlive : ∀ k, ¬ (Tr.new n).live k := fun k h => by have := h.1; simp [Tr.new] at this
 exact ⟨Inv.new hn, rfl, (fun x hx => by cases hx), (fun c hc => by cases hc), (fun x hx => by cases hx), List.nodup_nil, (fun k hk => absurd hk (hlive k)), (fun e => by cases e)⟩
theorem kept_cases {T : Trail} (c : List Int) : (∃ f, form c = some f ∧ kept1 T.n c = [f] ∧ (∀ x ∈ f, x ≠ 0 ∧ x.natAbs ≤ T.n) ∧ T.addX c = T.add f ∧ T.addR c = (T.cls.length : Int)) ∨ (kept1 T.n c = [] ∧ T.addX c = T ∧ T.addR c = -1) := by
 have e : ∀ f : List Int, (f.all fun x => decide (x ≠ 0 ∧ x.natAbs ≤ T.n)) = f.all T.is := fun f => rfl
 cases hf : form c with
 | none => right; unfold kept1 Trail.addX Trail.addR; rw [hf]; exact ⟨rfl, rfl, rfl⟩
 | some f =>
  by_cases h : f.all T.is = true
  ·left
   refine ⟨f, rfl, ?_, fun x hx => is_iff.1 (List.all_eq_true.1 h x hx), ?_, ?_⟩
   ·unfold kept1; rw [hf]; simp only [e, h, if_true]
   ·unfold Trail.addX; rw [hf]; simp only [h, if_true]
   ·unfold Trail.addR; rw [hf]; simp only [h, if_true]
  ·right
   refine ⟨?_, ?_, ?_⟩
   ·unfold kept1; rw [hf]; simp only [e, h]; rfl
   ·unfold Trail.addX; rw [hf]; simp only [h]; rfl
   ·unfold Trail.addR; rw [hf]; simp only [h]; rfl
theorem Holds.add {n : Nat} {O : List (List Int)} {S : St} (h : Holds n O S) {c : List Int} (hr : ∀ x ∈ c, InI64 x) (hb : S.T.cls.length < 2147483648) : Holds n (O ++ kept1 n c) (S.add c) := by
 have hbk := h.back 0
 have hn : (S.T.back 0).n = n := hbk.hn
 have hle := fun d (hd : d ∈ O) => List.mem_append_left (kept1 n c) hd
 rcases kept_cases (T := S.T.back 0) c with ⟨f, f1, f2, f3, f4, _⟩ | ⟨f2, f4, _⟩
 ·rw [hn] at f2
  have hg : Up.Good (S.T.back 0).n f := form_good hr f1 f3
  have hT : (S.add c).T = (S.T.back 0).add f := f4
  have ob := hbk.inv.ok
  have hlen : (S.T.back 0).cls.length = S.T.cls.length := by rw [(back_same S.T 0).1]
  have hliv := fun m => add_live ob f m
  refine ⟨?_, ?_, ?_, fun d hd => ?_, fun x hx => ?_, h.lnd, fun m hm => ?_, fun e => (h.dead e).mono hle⟩
  ·rw [hT]; exact hbk.inv.add hg (by show (S.T.back 0).cls.length < _; omega)
  ·rw [hT]; exact hn
  ·rw [hT]; exact heldP_add hbk.held ob _
  ·rw [hT]
   rcases List.mem_append.1 hd with hd | hd
   ·obtain ⟨k, h1, h2, h3⟩ := hbk.orig d hd
    exact ⟨k, (hliv k).2 (.inl h1), h2, by rw [add_cl _ _ h1.1]; exact h3⟩
   ·rw [f2, List.mem_singleton] at hd
    subst hd
    refine ⟨(S.T.back 0).cls.length, (hliv _).2 (.inr rfl), fun x hx e => ?_, by rw [add_new]⟩
    obtain ⟨k, k1, k2⟩ := h.lnum x hx
    have := k2.1
    omega
  ·rw [hT]
   obtain ⟨k, k1, k2⟩ := hbk.lnum x hx
   exact ⟨k, k1, (hliv k).2 (.inl k2)⟩
  ·rw [hT] at hm ⊢
   rcases (hliv m).1 hm with h1 | rfl
   ·rw [add_cl _ _ h1.1]
    exact (hbk.sem m h1).mono hle
   ·rw [add_new]
    intro mm hmm
    exact hmm f (List.mem_append_right _ (by rw [f2]; simp))
 ·rw [hn] at f2
  have hT : S.add c = { S with T := S.T.back 0 } := by unfold St.add; rw [f4]
  rw [hT, f2, List.append_nil]
  exact hbk
structure Fresh (n : Nat) (css : List (List Int)) (S : St) : Prop where
 holds : Holds n (keptAll n css) S
 lev : S.T.levels = []
 ents : S.T.ents = []
 rest : S.learnt = [] ∧ S.left = 32 ∧ S.turns = 0 ∧ S.keep = 300 ∧ S.dead = false ∧ S.proof = []
 len : S.T.cls.length ≤ css.length
theorem Fresh.new {n : Nat} (hn : n ≤ 65536) : Fresh n [] (St.new n) := ⟨Holds.new hn, rfl, rfl, ⟨rfl, rfl, rfl, rfl, rfl, rfl⟩, Nat.le_refl _⟩
theorem back_none {T : Trail} (h : T.levels = []) (k : Int) : T.back k = T := by
 unfold Trail.back; rw [h, if_neg (by simp)]
theorem Fresh.add {n : Nat} {css : List (List Int)} {S : St} (h : Fresh n css S) {c : List Int} (hr : ∀ x ∈ c, InI64 x) (hb : css.length < 2147483648) : Fresh n (css ++ [c]) (S.add c) := by
 have hl := h.len
 have hT : (S.add c).T = S.T.addX c := by unfold St.add; simp only; rw [back_none h.lev]
 refine ⟨by rw [keptAll_snoc]; exact h.holds.add hr (by omega), ?_, ?_, h.rest, ?_⟩
 ·rw [hT, (addX_ents S.T c).2]; exact h.lev
 ·rw [hT, (addX_ents S.T c).1]; exact h.ents
 ·rw [hT]
  rcases kept_cases (T := S.T) c with ⟨f, _, _, _, f4, _⟩ | ⟨_, f4, _⟩
  ·rw [f4]
   show (S.T.cls ++ [f]).length ≤ _
   simp only [List.length_append, List.length_singleton]; omega
  ·rw [f4]; simp only [List.length_append, List.length_singleton]; omega
theorem Fresh.addAll {n : Nat} (hn : n ≤ 65536) (css : List (List Int)) (hr : ∀ c ∈ css, ∀ x ∈ c, InI64 x) (hb : css.length < 2147483648) : Fresh n css ((St.new n).addAll css) := by
 have h : ∀ k, k ≤ css.length → Fresh n (css.take k) ((St.new n).addAll (css.take k)) := by
  intro k
  induction k with
  | zero => intro _; exact Fresh.new hn
  | succ k ih =>
   intro hk
   rw [take_snocC css [] k (by omega), addAll_snoc']
   exact (ih (by omega)).add (hr _ (getD_mem' [] (by omega))) (by rw [List.length_take]; omega)
 have h2 := h css.length (Nat.le_refl _)
 rw [List.take_of_length_le (Nat.le_refl _)] at h2
 exact h2
theorem Fresh.tm {n : Nat} {css : List (List Int)} {S : St} (h : Fresh n css S) : Tm n S 0 0 0 false := by
 obtain ⟨r1, r2, r3, r4, _, _⟩ := h.rest
 refine ⟨Nat.zero_le _, (fun e => by cases e), ?_, ?_, ?_, ?_, by omega, ?_⟩
 ·rw [r2, r3]; decide
 ·rw [r3]; omega
 ·rw [r3]; decide
 ·rw [r4]; rfl
 ·rw [r1]; simp
theorem Fresh.right {n : Nat} {css : List (List Int)} {S S2 : St} (h : Fresh n css S) {qs : List Int} (has : ∀ a ∈ qs, a ≠ 0 ∧ a.natAbs ≤ n) {bud : Int} (hb : bud ≤ 1048576) (hc : css.length ≤ 1000000) {a : Ans} (hR : Run paceF qs bud S 0 S2 a) : Holds n (keptAll n css) S2 ∧ Right n (keptAll n css) qs a := by
 have := h.len
 exact Run.law has hR h.holds (DecOk.start h.lev) (by omega)
theorem Fresh.ends {n : Nat} (hn : n ≤ 10) {css : List (List Int)} {S S2 : St} (h : Fresh n css S) {qs : List Int} (has : ∀ a ∈ qs, a ≠ 0 ∧ a.natAbs ≤ n) (hc : css.length ≤ 1000000) {a : Ans} (hR : Run paceF qs 1048576 S 0 S2 a) : ∀ m, a ≠ .spent m := by
 have := h.len
 exact Run.ends hn has hR h.holds (by omega) ⟨0, 0, false, h.tm⟩
theorem Run.free {pace : Int → Int → Int → Nat → (Int × Int × Int) × Bool × Bool} {qs : List Int} {bud : Int} {S S2 : St} {met : Int} {a : Ans} (hR : Run pace qs bud S met S2 a) : Tr.Inv S.T → S.T.cls = [] → (∀ l ∈ qs, l ≠ 0 ∧ l.natAbs ≤ S.T.n) → ∀ m, a ≠ .spent m := by
 have hno : ∀ {T T' : Trail} {k : Int}, Foll T T' k → Tr.Inv T → T.cls = [] → 0 ≤ k → False := fun hf i he hk => by
  obtain ⟨_, ex, hq⟩ := foll_post hf i
  rcases hq with ⟨e, _⟩ | ⟨k', _, hl, _⟩
  ·omega
  ·have := hl.1
   rw [ex.len, he] at this
   simp at this
 induction hR with
 | dead hd => intro _ _ _ m e; cases e
 | core hd hf ha => intro _ _ _ m e; cases e
 | sat hd hf ha hall => intro _ _ _ m e; cases e
 | done hd hf hk hl => intro _ _ _ m e; cases e
 | @ask S S2 met T' l a hd hf ha _ ih =>
  intro i he hq
  obtain ⟨i', ex, _⟩ := foll_post hf i
  have sp := asks_spec (T := T') (qs := qs)
  rw [ha] at sp
  have hl := hq l sp.1
  refine ih (i'.decide (by rw [ex.n]; exact hl) sp.2) ?_ (by show ∀ l ∈ qs, l ≠ 0 ∧ l.natAbs ≤ T'.n; rw [ex.n]; exact hq)
  have : T'.cls.length = 0 := by rw [ex.len, he]; rfl
  exact List.eq_nil_of_length_eq_zero this
 | @pick S S2 met T' l a hd hf ha hl hv _ ih =>
  intro i he hq
  obtain ⟨i', ex, _⟩ := foll_post hf i
  refine ih (i'.decide hl hv) ?_ (by show ∀ l ∈ qs, l ≠ 0 ∧ l.natAbs ≤ T'.n; rw [ex.n]; exact hq)
  have : T'.cls.length = 0 := by rw [ex.len, he]; rfl
  exact List.eq_nil_of_length_eq_zero this
 | spent hd hf hk0 hl hb => intro i he _; exact (hno hf i he hk0).elim
 | on hd hf hk0 hl hb haf _ ih => intro i he _; exact (hno hf i he hk0).elim
def two (qs : List Int) : Bool := qs.any fun l => qs.contains (-l)
def modelOf (n : Nat) (qs : List Int) : List Bool := (List.range n).map fun (i : Nat) => qs.contains ((i : Int) + 1)
theorem so_modelOf {n : Nat} (hn : n ≤ 65536) {qs : List Int} (has : ∀ a ∈ qs, a ≠ 0 ∧ a.natAbs ≤ n) (ht : two qs = false) : ∀ a ∈ qs, soB a (modelOf n qs) = true := fun a ha => by
 obtain ⟨h0, hle⟩ := has a ha
 have hl := lit_of h0 (show a.natAbs ≤ 65536 by omega)
 have hget : (modelOf n qs).getD (a.natAbs - 1) false = qs.contains (a.natAbs : Int) := by
  unfold modelOf
  rw [List.getD_eq_getElem?_getD, List.getElem?_map, List.getElem?_range (by omega)]
  simp only [Option.map_some, Option.getD_some]
  rw [show ((a.natAbs - 1 : Nat) : Int) + 1 = (a.natAbs : Int) by omega]
 unfold soB
 rw [hl.w]
 simp only [Bool.false_eq_true, if_false, hget]
 by_cases hneg : a < 0
 ·rw [if_pos hneg]
  unfold two at ht
  rw [List.any_eq_false] at ht
  have := ht a ha
  rw [show (a.natAbs : Int) = -a by omega]
  simpa using this
 ·rw [if_neg hneg, show (a.natAbs : Int) = a by omega]
  simpa using ha
theorem free_right {n : Nat} (hn : n ≤ 65536) {qs : List Int} (has : ∀ a ∈ qs, a ≠ 0 ∧ a.natAbs ≤ n) {a : Ans} (hr : Right n [] qs a) (hs : ∀ m, a ≠ .spent m) : (∃ m k, a = .sat m k) ↔ two qs = false := by
 cases a with
 | sat m k =>
  obtain ⟨_, _, h3⟩ := hr
  refine ⟨fun _ => ?_, fun _ => ⟨m, k, rfl⟩⟩
  cases ht : two qs
  ·rfl
  ·unfold two at ht
   rw [List.any_eq_true] at ht
   obtain ⟨l, hl, hc⟩ := ht
   have hm : -l ∈ qs := by simpa using hc
   obtain ⟨h0, hle⟩ := has l hl
   have h4 := h3 (-l) hm
   rw [Rup.so_neg (lit_of h0 (by omega)), h3 l hl] at h4
   cases h4
 | unsat core k =>
  obtain ⟨_, h2, h3⟩ := hr
  constructor
  ·rintro ⟨_, _, e⟩; cases e
  ·intro ht
   exact absurd (fun x hx => so_modelOf hn has ht x (h2 x hx)) (h3 _ fun c hc => by cases hc)
 | spent k => exact absurd rfl (hs k)
end Sv
namespace Sv
open Tr Cnf Up
def InM (m : List Bool) (T : Trail) : Prop := ∀ x ∈ T.lits, soB x m = true
theorem so_opp {x : Int} {m : List Bool} (h0 : x ≠ 0) (hx : x.natAbs ≤ 65536) (h : soB (-x) m = true) : soB x m = false := by
 rw [Rup.so_neg (lit_of h0 hx)] at h
 cases hs : soB x m
 ·rfl
 ·rw [hs] at h; cases h
theorem foll_inM {n : Nat} {O : List (List Int)} {S : St} (h : Holds n O S) {m : List Bool} (hm : Rup.Sat O m) {T' : Trail} {r : Int} (hf : Foll S.T T' r) (hi : InM m S.T) : InM m T' := by
 have h' := h.foll hf
 obtain ⟨i', ex, _⟩ := foll_post hf h.inv
 have hn : T'.n ≤ 65536 := i'.ok.n
 have key : ∀ p, p < T'.ents.length → soB (T'.lits.getD p 0) m = true := by
  intro p
  induction p using Nat.strongRecOn with
  | _ p ih =>
   intro hp
   by_cases c : p < S.T.ents.length
   ·obtain ⟨rr, hr⟩ := ex.lits
    have hl := lits_len S.T
    rw [hr, getD_app_l _ _ _ (by omega)]
    exact hi _ (getD_mem' 0 (by omega))
   ·have hne := foll_reason hf h.inv (by omega) hp
    rcases i'.rea p hp with e | ⟨h0, hlt, hc⟩
    ·exact absurd e hne
    ·have hmem : T'.ent p ∈ T'.ents := getD_mem' _ hp
     have hl : T'.live (T'.ent p).2.2.toNat := h'.held _ hmem h0
     obtain ⟨x, hx, hxs⟩ := h'.sem _ hl m hm
     have hg := cl_good h'.inv.ok hl
     rw [← ent_lit]
     by_cases e : x = (T'.ent p).1
     ·rw [← e]; exact hxs
     ·exfalso
      have hm2 := hc.oth x hx e
      obtain ⟨j, hj, e2⟩ := List.mem_take_iff_getElem.1 hm2
      have hll := lits_len T'
      have h3 := ih j (by omega) (by omega)
      rw [List.getD_eq_getElem?_getD, List.getElem?_eq_getElem (by omega), Option.getD_some, e2] at h3
      have hxl := hg.lit x hx
      rw [so_opp hxl.1 (Nat.le_trans hxl.2 hn) h3] at hxs
      cases hxs
 intro x hx
 obtain ⟨j, hj, e⟩ := lits_at hx
 rw [← e]; exact key j hj
theorem no_conflict {n : Nat} {O : List (List Int)} {S : St} (h : Holds n O S) {m : List Bool} (hm : Rup.Sat O m) {T' : Trail} {r : Int} (hf : Foll S.T T' r) (hi : InM m S.T) : r < 0 := by
 have h' := h.foll hf
 have hin := foll_inM h hm hf hi
 obtain ⟨i', ex, hq⟩ := foll_post hf h.inv
 have hn : T'.n ≤ 65536 := i'.ok.n
 rcases hq with ⟨e, _⟩ | ⟨k, rfl, hl, hneg⟩
 ·omega
 ·exfalso
  obtain ⟨x, hx, hxs⟩ := h'.sem _ hl m hm
  have hg := cl_good h'.inv.ok hl
  have hxl := hg.lit x hx
  rw [so_opp hxl.1 (Nat.le_trans hxl.2 hn) (hin _ (hneg x hx))] at hxs
  cases hxs
def Det (n : Nat) (O : List (List Int)) (base : List Int) : Prop :=
 ∀ L : List Int, (∀ x ∈ L, -x ∉ L) → (∀ c ∈ O, Fine L L c) → (∀ a ∈ base, a ∈ L) → ∀ i : Nat, 1 ≤ i → i ≤ n → (i : Int) ∈ L ∨ -(i : Int) ∈ L
theorem Fine.perm {L c d : List Int} (h : Fine L L d) (hp : c.Perm d) : Fine L L c := by
 rcases h with ⟨y, h1, h2⟩ | ⟨y, h1, z, h2, h3⟩
 ·exact .inl ⟨y, hp.mem_iff.2 h1, h2⟩
 ·exact .inr ⟨y, hp.mem_iff.2 h1, z, hp.mem_iff.2 h2, h3⟩
theorem Det.all {n : Nat} {O : List (List Int)} {base : List Int} (d : Det n O base) {S : St} (h : Holds n O S) {T' : Trail} (hf : Foll S.T T' (-1)) (hb : ∀ a ∈ base, T'.val a = 1) : ∀ i : Nat, 1 ≤ i → i ≤ n → T'.val (i : Int) ≠ 0 := by
 have h' := h.foll hf
 obtain ⟨s1, s2⟩ := settled hf h.inv
 have o' := h'.inv.ok
 intro i h1 h2 hv
 have hd := d T'.lits (fun x hx hc => (o'.good.cons hx) hc) (fun c hc => by
  obtain ⟨k, k1, _, k3⟩ := h'.orig c hc
  exact Fine.perm (fine_live h'.inv s1 s2 k1) k3) (fun a ha => o'.one.1 (hb a ha)) i h1 h2
 rcases hd with hd | hd
 ·have := o'.one.2 hd
  have hv : T'.val (i : Int) = 0 := hv
  rw [hv] at this; cases this
 ·have := o'.neg1.2 hd
  have hv : T'.val (i : Int) = 0 := hv
  rw [hv] at this; cases this
theorem asks_base {T : Trail} {rest : List Int} : ∀ {base : List Int} {l : Int} {r : Bool}, asks T (base ++ rest) = some (l, r) → l ∈ base ∨ ((∀ a ∈ base, T.val a = 1) ∧ asks T rest = some (l, r))
 | [], l, r, h => .inr ⟨(fun a ha => by cases ha), h⟩
 | x :: b, l, r, h => by
  rw [List.cons_append, asks] at h
  by_cases h1 : T.val x = -1
  ·rw [if_pos h1] at h
   simp only [Option.some.injEq, Prod.mk.injEq] at h
   exact .inl (by simp [h.1])
  ·rw [if_neg h1] at h
   by_cases h0 : T.val x = 0
   ·rw [if_pos h0] at h
    simp only [Option.some.injEq, Prod.mk.injEq] at h
    exact .inl (by simp [h.1])
   ·rw [if_neg h0] at h
    rcases asks_base h with h2 | ⟨h2, h3⟩
    ·exact .inl (List.mem_cons_of_mem _ h2)
    ·refine .inr ⟨fun a ha => ?_, h3⟩
     rcases List.mem_cons.1 ha with rfl | ha
     ·have := val3 T a; omega
     ·exact h2 a ha
theorem Run.calm {pace : Int → Int → Int → Nat → (Int × Int × Int) × Bool × Bool} {base rest : List Int} {bud : Int} {n : Nat} {O : List (List Int)} (d : Det n O base) {m : List Bool} (hm : Rup.Sat O m) (hb : ∀ a ∈ base, soB a m = true)
  (has : ∀ a ∈ base ++ rest, a ≠ 0 ∧ a.natAbs ≤ n) {S S2 : St} {met : Int} {a : Ans} (hR : Run pace (base ++ rest) bud S met S2 a) : Holds n O S → InM m S.T → S2.learnt = S.learnt ∧ S2.T.cls.length = S.T.cls.length ∧ S2.left = S.left ∧ S2.turns = S.turns ∧ S2.keep = S.keep ∧ S2.proof.length ≤ S.proof.length + 1 ∧ Holds n O S2 ∧ InM m S2.T ∧ ∀ k, a ≠ .spent k := by
 induction hR with
 | dead hd => intro h hi; exact ⟨rfl, rfl, rfl, rfl, rfl, by omega, h, hi, fun k e => by cases e⟩
 | @core S met T' l hd hf ha =>
  intro h hi
  obtain ⟨_, ex, _⟩ := foll_post hf h.inv
  refine ⟨rfl, ex.len, rfl, rfl, rfl, ?_, (h.foll hf).plain _ _ _ _, foll_inM h hm hf hi, fun k e => by cases e⟩
  show (S.proof ++ proves _).length ≤ _
  rw [List.length_append]
  have : ∀ c, (proves c).length ≤ 1 := fun c => by unfold proves; split <;> simp
  have := this ((coreL (base ++ rest) l (T'.whyL (-l))).map fun x => -x)
  omega
 | @sat S met T' hd hf ha hall =>
  intro h hi
  obtain ⟨_, ex, _⟩ := foll_post hf h.inv
  exact ⟨rfl, ex.len, rfl, rfl, rfl, by show S.proof.length ≤ _; omega, h.foll hf, foll_inM h hm hf hi, fun k e => by cases e⟩
 | @ask S S2 met T' l a hd hf ha _ ih =>
  intro h hi
  have h1 := h.foll hf
  have hi1 := foll_inM h hm hf hi
  obtain ⟨_, ex, _⟩ := foll_post hf h.inv
  have sp := asks_spec (T := T') (qs := base ++ rest)
  rw [ha] at sp
  have hl := has l sp.1
  have hso : soB l m = true := by
   rcases asks_base ha with h2 | ⟨h2, h3⟩
   ·exact hb l h2
   ·exfalso
    have hv := d.all h hf h2 l.natAbs (by omega) hl.2
    apply hv
    have h0 := sp.2
    rcases Int.natAbs_eq l with e | e
    ·rw [← e]; exact h0
    ·rw [show (l.natAbs : Int) = -l by omega, val_neg h1.inv.ok]
     have h0 : T'.val l = 0 := h0
     show - T'.val l = 0
     rw [h0]; rfl
  have := ih (h1.dec (by show l ≠ 0 ∧ l.natAbs ≤ T'.n; rw [show T'.n = n from h1.hn]; exact hl) sp.2) (fun x hx => by
   have hls : (T'.dec l).lits = T'.lits ++ [l] := lits_put _ l (-1)
   have hx : x ∈ (T'.dec l).lits := hx
   rw [hls, List.mem_append, List.mem_singleton] at hx
   rcases hx with hx | rfl
   ·exact hi1 x hx
   ·exact hso)
  obtain ⟨a1, a2, a3, a4, a5, a6, a7⟩ := this
  exact ⟨a1, a2.trans ex.len, a3, a4, a5, a6, a7⟩
 | @pick S S2 met T' l a hd hf ha hl hv _ ih =>
  intro h hi
  exfalso
  have h1 := h.foll hf
  have sp := asks_spec (T := T') (qs := base ++ rest)
  rw [ha] at sp
  have hT' : T'.n = n := h1.hn
  have hv2 := d.all h hf (fun a ha => sp a (List.mem_append_left _ ha)) l.natAbs (by omega) (by omega)
  apply hv2
  rcases Int.natAbs_eq l with e | e
  ·rw [← e]; exact hv
  ·rw [show (l.natAbs : Int) = -l by omega, val_neg h1.inv.ok]
   show - T'.val l = 0
   rw [hv]; rfl
 | done hd hf hk hl => intro h hi; have := no_conflict h hm hf hi; omega
 | spent hd hf hk hl hb => intro h hi; have := no_conflict h hm hf hi; omega
 | on hd hf hk hl hb haf _ ih => intro h hi; have := no_conflict h hm hf hi; omega
end Sv
namespace Sv
open Tr Cnf Up
theorem kept1_self {n : Nat} {c : List Int} (hc : ∀ x ∈ c, x ≠ 0 ∧ x.natAbs ≤ 65536) (hs : AbsStrict c) (hn : ∀ x ∈ c, x ≠ 0 ∧ x.natAbs ≤ n) : kept1 n c = [c] := by
 unfold kept1
 rw [form_self hc hs]
 simp only
 rw [if_pos (List.all_eq_true.2 fun x hx => decide_eq_true (hn x hx))]
theorem ex21_kept : keptAll 2 [[1, 2], [-1]] = [[1, 2], [-1]] := by
 unfold keptAll
 rw [List.flatMap_cons, List.flatMap_cons, List.flatMap_nil, kept1_self (by simp) (by simp [AbsStrict]) (by simp), kept1_self (by simp) (by simp [AbsStrict]) (by simp)]
 rfl
theorem ex21_det : Det 2 [[1, 2], [-1]] [] := by
 intro L hc hf _ i h1 h2
 have hm1 : (-1 : Int) ∈ L := by
  rcases hf [-1] (by simp) with ⟨y, hy, h⟩ | ⟨y, hy, z, hz, hne, _⟩
  ·simp at hy; subst hy; exact h
  ·simp at hy hz; subst hy hz; exact absurd rfl hne
 have h2m : (2 : Int) ∈ L := by
  rcases hf [1, 2] (by simp) with ⟨y, hy, h⟩ | ⟨y, hy, z, hz, hne, hy1, hz1⟩
  ·simp at hy
   rcases hy with rfl | rfl
   ·exact absurd hm1 (hc 1 h)
   ·exact h
  ·simp at hy hz
   rcases hy with rfl | rfl
   ·exact absurd hm1 hy1
   ·rcases hz with rfl | rfl
    ·exact absurd hm1 hz1
    ·exact absurd rfl hne
 have : i = 1 ∨ i = 2 := by omega
 rcases this with rfl | rfl
 ·exact .inr hm1
 ·exact .inl h2m
theorem ex21_answer {S S2 : St} {a : Ans} (h : Fresh 2 [[1, 2], [-1]] S) (hR : Run paceF [] 100 S 0 S2 a) : ∃ met, a = .sat [false, true] met := by
 have hm : Rup.Sat [[1, 2], [-1]] [false, true] := by
  intro c hc
  simp at hc
  rcases hc with rfl | rfl
  ·exact ⟨2, by simp, by decide⟩
  ·exact ⟨-1, by simp, by decide⟩
 have hh := h.holds
 rw [ex21_kept] at hh
 obtain ⟨-, -, -, -, -, -, -, -, hns⟩ := Run.calm (base := []) (rest := []) ex21_det hm (by simp) (by simp) hR hh (fun x hx => by rw [Trail.lits, h.ents] at hx; cases hx)
 have hr := (h.right (by simp) (by omega) (by simp) hR).2
 rw [ex21_kept] at hr
 cases a with
 | sat m met =>
  obtain ⟨h1, h2, _⟩ := hr
  match m, h1 with
  | [x, y], _ =>
   obtain ⟨z, hz, hs⟩ := h2 [-1] (by simp)
   simp at hz
   subst hz
   obtain ⟨z, hz, hs2⟩ := h2 [1, 2] (by simp)
   simp at hz
   have hx : x = false := by
    cases x
    ·rfl
    ·exact absurd hs (by cases y <;> decide)
   subst hx
   have hy : y = true := by
    cases y
    ·rcases hz with rfl | rfl
     ·exact absurd hs2 (by decide)
     ·exact absurd hs2 (by decide)
    ·rfl
   subst hy
   exact ⟨met, rfl⟩
 | unsat core met =>
  obtain ⟨_, h2, h3⟩ := hr
  exact absurd (fun x hx => absurd (h2 x hx) (by simp)) (h3 [false, true] hm)
 | spent met => exact absurd rfl (hns met)
end Sv
end Go.Proofs.YtjedgdamommgeaaGreat

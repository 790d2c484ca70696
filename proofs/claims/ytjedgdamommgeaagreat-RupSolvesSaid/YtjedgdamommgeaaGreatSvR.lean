/- A question's proof is without a wrong step, and proves the clause of the opposites of the core. Plain Lean. -/
import Derived.Test.YtjedgdamommgeaaGreatSvA
import Derived.Test.YtjedgdamommgeaaGreatRupLaw4
set_option linter.unusedVariables false
namespace Go.Proofs.YtjedgdamommgeaaGreat
open Go.RowKit
namespace Rup
open Cnf
theorem run_app : ∀ (ps : List (Bool × List Int)) (C : Chk) (p : Bool × List Int), C.run (ps ++ [p]) = (C.run ps).bind fun D => D.step p
 | [], C, p => by
  show C.run [p] = C.step p
  unfold Chk.run
  cases C.step p <;> rfl
 | q :: ps, C, p => by
  show C.run (q :: (ps ++ [p])) = (C.run (q :: ps)).bind _
  unfold Chk.run
  cases C.step q with
  | none => rfl
  | some D => exact run_app ps D p
theorem run_bad : ∀ (ps : List (Bool × List Int)) (C D : Chk) (i : Nat), C.run ps = some D → C.bad ps i = -1
 | [], C, D, i, _ => rfl
 | q :: ps, C, D, i, h => by
  unfold Chk.run at h
  unfold Chk.bad
  cases hs : C.step q with
  | none => rw [hs] at h; cases h
  | some E => rw [hs] at h; exact run_bad ps E D (i + 1) h
theorem formL_abs {n : Nat} (hn : n ≤ 65536) {c : List Int} (h : Up.Good n c) : AbsStrict (formL c) := by
 have hlit : ∀ x ∈ c, Cnf.Lit x := fun x hx => Tr.lit_of (h.lit x hx).1 (by have := (h.lit x hx).2; omega)
 have hl2 : ∀ x ∈ formL c, Cnf.Lit x := fun x hx => hlit x ((mem_formL c x).1 hx)
 have hs := formL_strict c
 unfold Strict at hs
 unfold AbsStrict
 refine hs.imp_of_mem fun {x y} hx hy hxy => ?_
 rw [lt_iff, (hl2 x hx).abs, (hl2 y hy).abs] at hxy
 rcases hxy with h1 | ⟨h1, h2⟩
 ·omega
 ·exfalso
  have : y = -x := by omega
  rw [this] at hy
  exact h.cons ((mem_formL c x).1 hx) ((mem_formL c (-x)).1 hy)
theorem step_good {C : Chk} (o : C.Ok) {f : List Int} (ha : AbsStrict f) (hl : ∀ x ∈ f, x ≠ 0 ∧ x.natAbs ≤ C.n) (hc : Up.Conf (f.map fun x => -x) C.live) : C.step (false, f) = some (C.add f) := by
 have hf := formR_lits o.n hl ha
 have hr : ∀ x ∈ f, InI64 x := fun x hx => by have := hl x hx; have := o.n; unfold InI64; omega
 obtain ⟨_, _, _, hgn⟩ := formR_ok hr hf
 unfold Chk.step
 rw [hf]
 simp only [Bool.false_eq_true, if_false]
 rw [if_pos ((Up.conf_iff (fun d hd => live_cls C o d hd) hgn).2 hc)]
end Rup
namespace Sv
open Tr Cnf Up
def AmongA (T : Trail) (D : List (List Int)) : Prop := ∀ k, T.live k → ∃ d ∈ D, (T.cl k).Perm d
theorem AmongA.among {T : Trail} {D : List (List Int)} (h : AmongA T D) : T.among D := fun k hk _ => h k hk
theorem der_conf {A : List Int} {D : List (List Int)} {x : Int} (h1 : x ∈ A) (h : Der A D (-x)) (hn : -x ∉ A) : Conf A D := by
 have key := h (fun y => Der A D y ∧ (y ∈ A ∨ ∃ c ∈ D, y ∈ c ∧ ∀ z ∈ c, z ≠ y → Der A D (-z))) (fun y hy => ⟨Der.base hy, .inl hy⟩)
  (fun c hc z hz hh => ⟨Der.unit hc hz fun y hy hne => (hh y hy hne).1, .inr ⟨c, hc, hz, fun y hy hne => (hh y hy hne).1⟩⟩)
 rcases key.2 with h2 | ⟨c, hc, hm, hz⟩
 ·exact absurd h2 hn
 ·refine ⟨c, hc, fun y hy => ?_⟩
  by_cases e : y = -x
  ·subst e; rw [Int.neg_neg]; exact Der.base h1
  ·exact hz y hy e
structure PInv (n : Nat) (css : List (List Int)) (T : Trail) (P : List (Bool × List Int)) (C : Rup.Chk) : Prop where
 run : (Rup.start n css).run P = some C
 rest : C.Rest (100000 - P.length)
 n : C.n = n
 am : AmongA T C.live
theorem PInv.trail {n : Nat} {css : List (List Int)} {T T' : Trail} {P : List (Bool × List Int)} {C : Rup.Chk} (h : PInv n css T P C) (hl : ∀ k, T'.live k → T.live k) (hp : ∀ k, (T'.cl k).Perm (T.cl k)) : PInv n css T' P C :=
 ⟨h.run, h.rest, h.n, fun k hk => by
  obtain ⟨d, hd, p⟩ := h.am k (hl k hk)
  exact ⟨d, hd, (hp k).trans p⟩⟩
theorem PInv.more {n : Nat} {css : List (List Int)} {T T' : Trail} {P : List (Bool × List Int)} {C : Rup.Chk} (h : PInv n css T P C) (hP : P.length < 100000) {f : List Int} (ha : AbsStrict f) (hlit : ∀ x ∈ f, x ≠ 0 ∧ x.natAbs ≤ n) (hc : Conf (f.map fun x => -x) C.live)
  (hl : ∀ k, T'.live k → (T.live k ∧ (T'.cl k).Perm (T.cl k)) ∨ T'.cl k = f) : ∃ C', PInv n css T' (P ++ [(false, f)]) C' := by
 have o := h.rest.ok
 have hs := Rup.step_good o ha (by rw [h.n]; exact hlit) hc
 have hr : ∀ x ∈ (false, f).2, InI64 x := fun x hx => by
  have := hlit x hx
  have hn := o.n
  rw [h.n] at hn
  unfold InI64; omega
 have hrest := h.rest
 rw [show 100000 - P.length = (100000 - (P ++ [(false, f)]).length) + 1 by rw [List.length_append, List.length_singleton]; omega] at hrest
 obtain ⟨r1, r2⟩ := hrest.step hr hs
 refine ⟨C.add f, ?_, r1, r2.trans h.n, fun k hk => ?_⟩
 ·rw [Rup.run_app, h.run]; exact hs
 ·rw [Rup.live_add C o.len]
  rcases hl k hk with ⟨h1, h2⟩ | h1
  ·obtain ⟨d, hd, p⟩ := h.am k h1
   exact ⟨d, List.mem_append_left _ hd, h2.trans p⟩
  ·rw [h1]; exact ⟨f, List.mem_append_right _ (by simp), List.Perm.refl _⟩
structure Proved (n : Nat) (css : List (List Int)) (P : List (Bool × List Int)) (a : Ans) : Prop where
 run : ∃ C, (Rup.start n css).run P = some C
 len : P.length ≤ 400
 small : ∀ p ∈ P, p.2.length ≤ 65536
 goal : ∀ core k, a = .unsat core k → ∀ f, form (core.map fun x => -x) = some f → ∃ p ∈ P, p.1 = false ∧ ∀ x ∈ p.2, x ∈ core.map fun x => -x
theorem small_app {P : List (Bool × List Int)} {p : Bool × List Int} (h : ∀ p ∈ P, p.2.length ≤ 65536) (hp : p.2.length ≤ 65536) : ∀ q ∈ P ++ [p], q.2.length ≤ 65536 := fun q hq => by
 rcases List.mem_append.1 hq with hq | hq
 ·exact h q hq
 ·rw [List.mem_singleton] at hq; subst hq; exact hp
theorem abs_len {n : Nat} {f : List Int} (ha : AbsStrict f) (hlit : ∀ x ∈ f, x ≠ 0 ∧ x.natAbs ≤ n) : f.length ≤ n := by
 refine Up.Good.len (n := n) ⟨hlit, ?_⟩
 unfold AbsStrict at ha
 rw [List.Nodup, List.pairwise_map]
 exact ha.imp fun h => by omega
theorem PInv.learn {n : Nat} {css O : List (List Int)} {S : St} {C : Rup.Chk} (h : Holds n O S) (hp : PInv n css S.T S.proof C) (hP : S.proof.length < 100000) {k : Nat} (hlive : S.T.live k) (hneg : ∀ x ∈ S.T.cl k, -x ∈ S.T.lits) {L : Less} (hl : S.T.lesson (k : Int) = some (some L)) :
  ∃ f C', proves L.clause = [(false, f)] ∧ f.length ≤ 65536 ∧ PInv n css (S.learn L).T (S.learn L).proof C' := by
 obtain ⟨_, hq⟩ := lesson_law h.inv (held_iff.2 h.held) hp.am.among hlive hneg
 rcases hq with ⟨_, h2, _⟩ | ⟨_, first, rest, atoms, h2, W⟩
 ·rw [hl] at h2; simp at h2
 ·rw [hl] at h2
  have hL : L.clause = first :: rest := by simp only [Option.some.injEq] at h2; rw [h2]
  obtain ⟨g1, g2, g3⟩ := taught_form h.inv W L.back
  have hT : (S.learn L).T = (S.T.back L.back).add (formL (first :: rest)) := by unfold St.learn; simp only [hL]; exact g2
  have hgood := W.good h.inv
  have hn := h.inv.ok.n
  have ha := Rup.formL_abs hn hgood
  have hlit : ∀ x ∈ formL (first :: rest), x ≠ 0 ∧ x.natAbs ≤ n := fun x hx => by
   have := hgood.lit x ((mem_formL _ _).1 hx)
   rw [h.hn] at this; exact this
  have hpr : proves L.clause = [(false, formL (first :: rest))] := by unfold proves; rw [hL, g1]
  have hc : Conf ((formL (first :: rest)).map fun x => -x) C.live := W.conf.mono (fun y hy => by
   obtain ⟨x, hx, rfl⟩ := List.mem_map.1 hy
   exact List.mem_map.2 ⟨x, (mem_formL _ _).2 hx, rfl⟩) (fun _ h => h)
  have ob := (h.back L.back).inv.ok
  obtain ⟨C', hC⟩ := hp.more (T' := (S.learn L).T) hP ha hlit hc (fun m hm => by
   rw [hT] at hm ⊢
   rcases (add_live ob (formL (first :: rest)) m).1 hm with h1 | rfl
   ·left
    refine ⟨(back_live _ _ m).1 h1, ?_⟩
    rw [add_cl _ _ h1.1, back_cl]
   ·right; rw [add_new])
  have hlen := abs_len ha hlit
  rw [h.hn] at hn
  refine ⟨_, C', hpr, by omega, ?_⟩
  show PInv n css (S.learn L).T (S.proof ++ proves L.clause) C'
  rw [hpr]; exact hC
theorem Run.proof {qs : List Int} {n : Nat} {css O : List (List Int)} (has : ∀ a ∈ qs, a ≠ 0 ∧ a.natAbs ≤ n) {bud : Int} {S S2 : St} {met : Int} {a : Ans} (hR : Run paceF qs bud S met S2 a) : bud = 300 →
  Holds n O S → DecOk qs S.T → S.T.cls.length + (301 - met).toNat < 2147483648 → 0 ≤ met → met ≤ 300 → (S.learnt.length : Int) ≤ met → 300 ≤ S.keep → (S.proof.length : Int) ≤ met → S.dead = false → (∀ p ∈ S.proof, p.2.length ≤ 65536) → (∃ C, PInv n css S.T S.proof C) →
  Proved n css S2.proof a := by
 induction hR with
 | dead hd => intro _ _ _ _ _ _ _ _ _ h; rw [hd] at h; cases h
 | @core S met T' l hd hf ha =>
  intro hbud h hk hc m0 m1 hln hkp hpl hdd hsm ⟨C, hP⟩
  have h1 := h.foll hf
  obtain ⟨_, ex, _⟩ := foll_post hf h.inv
  have hP1 : PInv n css T' S.proof C := hP.trail (fun k hk => (ex.live k).1 hk) ex.perm
  have sp := asks_spec (T := T') (qs := qs)
  rw [ha] at sp
  obtain ⟨s1, s2⟩ := sp
  have hneg : -l ∈ T'.lits := h1.inv.ok.neg1.1 s2
  obtain ⟨c1, c2⟩ := coreL_spec qs l (T'.whyL (-l))
  obtain ⟨w1, w2, w3⟩ := whyL_law h1.inv (held_iff.2 h1.held) hP1.am.among hneg
  obtain ⟨co, hco⟩ : ∃ co, coreL qs l (T'.whyL (-l)) = co := ⟨_, rfl⟩
  rw [hco] at c1 c2
  have hlc : l ∈ co := (c2 l).2 ⟨s1, .inl rfl⟩
  have hder : Der co C.live (-l) := w3.mono (fun u hu => (c2 u).2 ⟨why_assumed h1.inv (hk.foll h.inv hf) s1 hneg (w1 u hu).1 (w1 u hu).2.2, .inr hu⟩) (fun _ h => h)
  have hnn : T'.n ≤ 65536 := h1.inv.ok.n
  have hTn : T'.n = n := h1.hn
  have hgl : ∀ x ∈ co.map (fun x => -x), x ≠ 0 ∧ x.natAbs ≤ n := fun x hx => by
   obtain ⟨y, hy, rfl⟩ := List.mem_map.1 hx
   have := has y ((c2 y).1 hy).1
   omega
  have hgi : ∀ x ∈ co.map (fun x => -x), InI64 x := fun x hx => by have := hgl x hx; unfold InI64; omega
  show Proved n css (S.proof ++ proves ((coreL qs l (T'.whyL (-l))).map fun x => -x)) (.unsat (coreL qs l (T'.whyL (-l))) met)
  rw [hco]
  cases hfm : form (co.map fun x => -x) with
  | none =>
   have hpr : proves (co.map fun x => -x) = [] := by unfold proves; rw [hfm]
   rw [hpr, List.append_nil]
   refine ⟨⟨C, hP.run⟩, by omega, hsm, fun core k e f hf2 => ?_⟩
   simp only [Ans.unsat.injEq] at e
   rw [← e.1, hfm] at hf2; cases hf2
  | some f =>
   have hpr : proves (co.map fun x => -x) = [(false, f)] := by unfold proves; rw [hfm]
   rw [hpr]
   have hmem := Rup.form_mem hfm
   have hnl : -l ∉ co := fun hm => by
    have g1 : l ∈ co.map (fun x => -x) := List.mem_map.2 ⟨-l, hm, by omega⟩
    have g2 : -l ∈ co.map (fun x => -x) := List.mem_map.2 ⟨l, hlc, rfl⟩
    rw [form_opp hgi g1 g2] at hfm; cases hfm
   have hcf : Conf (f.map fun x => -x) C.live := (der_conf hlc hder hnl).mono (fun y hy => List.mem_map.2 ⟨-y, (hmem _).2 (List.mem_map.2 ⟨y, hy, rfl⟩), by omega⟩) (fun _ h => h)
   have hlit : ∀ x ∈ f, x ≠ 0 ∧ x.natAbs ≤ n := fun x hx => hgl x ((hmem x).1 hx)
   have hfR : Rup.formR n (co.map fun x => -x) = some f := by
    rw [Rup.formR_some hfm, if_neg]
    rw [Bool.not_eq_true, List.any_eq_false]
    intro x hx
    rw [Rup.okAt_lit (hlit x hx) (by omega)]
    simp
   obtain ⟨_, _, habs, _⟩ := Rup.formR_ok hgi hfR
   obtain ⟨C', hC⟩ := hP1.more (T' := T') (by omega) habs hlit hcf (fun k hk => .inl ⟨hk, List.Perm.refl _⟩)
   have hlen := abs_len habs hlit
   refine ⟨⟨C', hC.run⟩, by rw [List.length_append, List.length_singleton]; omega, small_app hsm (by show f.length ≤ _; omega), fun core k e f2 hf2 => ⟨(false, f), List.mem_append_right _ (by simp), rfl, fun x hx => ?_⟩⟩
   simp only [Ans.unsat.injEq] at e
   rw [← e.1]
   exact (hmem x).1 hx
 | @sat S met T' hd hf ha hall =>
  intro hbud h hk hc m0 m1 hln hkp hpl hdd hsm ⟨C, hP⟩
  exact ⟨⟨C, hP.run⟩, by show S.proof.length ≤ _; omega, hsm, fun core k e => by cases e⟩
 | @ask S S2 met T' l a hd hf ha _ ih =>
  intro hbud h hk hc m0 m1 hln hkp hpl hdd hsm ⟨C, hP⟩
  have h1 := h.foll hf
  have sp := asks_spec (T := T') (qs := qs)
  rw [ha] at sp
  obtain ⟨s1, s2⟩ := sp
  obtain ⟨_, e, _⟩ := foll_post hf h.inv
  refine ih hbud (h1.dec ?_ s2) ((hk.foll h.inv hf).dec h1.inv (.inl s1)) ?_ m0 m1 hln hkp hpl hdd hsm ⟨C, hP.trail (T' := T'.dec l) (fun k hk => (e.live k).1 hk) e.perm⟩
  ·show l ≠ 0 ∧ l.natAbs ≤ T'.n
   rw [show T'.n = n from h1.hn]; exact has l s1
  ·show T'.cls.length + _ < _
   rw [e.len]; exact hc
 | @pick S S2 met T' l a hd hf ha hl hv _ ih =>
  intro hbud h hk hc m0 m1 hln hkp hpl hdd hsm ⟨C, hP⟩
  have h1 := h.foll hf
  have sp := asks_spec (T := T') (qs := qs)
  rw [ha] at sp
  obtain ⟨_, e, _⟩ := foll_post hf h.inv
  refine ih hbud (h1.dec hl hv) ((hk.foll h.inv hf).dec h1.inv (.inr fun a hA => h1.inv.ok.one.1 (sp a hA))) ?_ m0 m1 hln hkp hpl hdd hsm ⟨C, hP.trail (T' := T'.dec l) (fun k hk => (e.live k).1 hk) e.perm⟩
  show T'.cls.length + _ < _
  rw [e.len]; exact hc
 | @done S met T' k hd hf hk0 hl =>
  intro hbud h hk hc m0 m1 hln hkp hpl hdd hsm ⟨C, hP⟩
  have h1 := h.foll hf
  obtain ⟨_, ex, hq⟩ := foll_post hf h.inv
  have hP1 : PInv n css T' S.proof C := hP.trail (fun k hk => (ex.live k).1 hk) ex.perm
  rcases hq with ⟨e, _⟩ | ⟨k', rfl, hlive, hneg⟩
  ·omega
  have hcf : Conf [] C.live := by
   obtain ⟨_, hq⟩ := lesson_law h1.inv (held_iff.2 h1.held) hP1.am.among hlive hneg
   rcases hq with ⟨_, _, h2⟩ | ⟨_, first, rest, atoms, h2, _⟩
   ·by_cases he : T'.cl k' = []
    ·obtain ⟨d, hd, p⟩ := hP1.am k' hlive
     rw [he] at p
     have hd0 := List.nil_perm.1 p
     subst hd0
     exact ⟨[], hd, fun y hy => by cases hy⟩
    ·exact h2 he
   ·have h2 : T'.lesson (k' : Int) = _ := h2
    rcases hl with hl | hl <;> (rw [hl] at h2; simp at h2)
  obtain ⟨C', hC⟩ := hP1.more (T' := T') (f := []) (by omega) List.Pairwise.nil (fun x hx => by cases hx) hcf (fun k hk => .inl ⟨hk, List.Perm.refl _⟩)
  exact ⟨⟨C', hC.run⟩, by show (S.proof ++ [(false, [])]).length ≤ _; rw [List.length_append, List.length_singleton]; omega, small_app hsm (by simp), fun core k e f2 hf2 => ⟨(false, []), List.mem_append_right _ (by simp), rfl, fun x hx => by cases hx⟩⟩
 | @spent S met T' k L hd hf hk0 hl hb =>
  intro hbud h hk hc m0 m1 hln hkp hpl hdd hsm ⟨C, hP⟩
  have h1 := h.foll hf
  obtain ⟨_, ex, hq⟩ := foll_post hf h.inv
  have hP1 : PInv n css T' S.proof C := hP.trail (fun k hk => (ex.live k).1 hk) ex.perm
  rcases hq with ⟨e, _⟩ | ⟨k', rfl, hlive, hneg⟩
  ·omega
  obtain ⟨f, C', hpr, hfl, hC⟩ := PInv.learn (S := { S with T := T' }) h1 hP1 (by show S.proof.length < _; omega) hlive hneg hl
  refine ⟨⟨C', hC.run⟩, ?_, ?_, fun core k e => by cases e⟩
  ·show (S.proof ++ proves L.clause).length ≤ _
   rw [hpr, List.length_append, List.length_singleton]; omega
  ·show ∀ p ∈ S.proof ++ proves L.clause, _
   rw [hpr]; exact small_app hsm hfl
 | @on S S1 S2 met T' k L a hd hf hk0 hl hb haf _ ih =>
  intro hbud h hk hc m0 m1 hln hkp hpl hdd hsm ⟨C, hP⟩
  have h1 := h.foll hf
  obtain ⟨_, ex, hq⟩ := foll_post hf h.inv
  have hP1 : PInv n css T' S.proof C := hP.trail (fun k hk => (ex.live k).1 hk) ex.perm
  rcases hq with ⟨e, _⟩ | ⟨k', rfl, hlive, hneg⟩
  ·omega
  obtain ⟨f, C', hpr, hfl, hC⟩ := PInv.learn (S := { S with T := T' }) h1 hP1 (by show S.proof.length < _; omega) hlive hneg hl
  rcases h1.taught hlive hneg with ⟨h2, _⟩ | ⟨top, first, rest, atoms, h2, _, W, hE⟩
  ·have h2 : T'.lesson (k' : Int) = some none := h2
   rw [hl] at h2; simp at h2
  ·have h2 : T'.lesson (k' : Int) = some (some _) := h2
   rw [hl] at h2
   have hL : L.clause = first :: rest := by simp only [Option.some.injEq] at h2; rw [h2]
   have hcl : T'.cls.length < 2147483648 := by rw [ex.len]; omega
   have h3 := Holds.learn h1 hL W hE hcl
   have hk3 : DecOk qs (St.learn { S with T := T' } L).T := by
    have hkb := (hk.foll h.inv hf).back h1.inv L.back
    obtain ⟨_, g2, _⟩ := taught_form h1.inv W L.back
    have hT3 : (St.learn { S with T := T' } L).T = (T'.back L.back).add (formL (first :: rest)) := by unfold St.learn; simp only [hL]; exact g2
    rw [hT3]
    exact hkb.same rfl rfl
   have hlen3 : (St.learn { S with T := T' } L).T.cls.length = S.T.cls.length + 1 := by
    obtain ⟨_, g2, _⟩ := taught_form h1.inv W L.back
    have hT3 : (St.learn { S with T := T' } L).T = (T'.back L.back).add (formL (first :: rest)) := by unfold St.learn; simp only [hL]; exact g2
    rw [hT3]
    show ((T'.back L.back).cls ++ [formL (first :: rest)]).length = _
    rw [List.length_append, (back_same T' L.back).1, ex.len]; rfl
   have hpl3 : ((St.learn { S with T := T' } L).proof.length : Int) ≤ met + 1 := by
    show ((S.proof ++ proves L.clause).length : Int) ≤ _
    rw [hpr, List.length_append, List.length_singleton]; omega
   have hsm3 : ∀ p ∈ (St.learn { S with T := T' } L).proof, p.2.length ≤ 65536 := by
    show ∀ p ∈ S.proof ++ proves L.clause, _
    rw [hpr]; exact small_app hsm hfl
   have hll3 : ((St.learn { S with T := T' } L).learnt.length : Int) ≤ met + 1 := by
    show ((S.learnt ++ [_]).length : Int) ≤ _
    rw [List.length_append]; simp only [List.length_singleton]; omega
   have hkp3 : 300 ≤ (St.learn { S with T := T' } L).keep := hkp
   have hd3 : (St.learn { S with T := T' } L).dead = false := hdd
   have ha4 := h3.after haf
   have hk4 := hk3.after h3.inv haf
   have hl4 := haf.T_eq.1
   generalize St.learn { S with T := T' } L = S3 at *
   cases haf with
   | @mk l t k anew fg gone hp hg hn =>
    have hfg : fg = false := by
     unfold paceF at hp
     simp only [Prod.mk.injEq] at hp
     have h9 := hp.2.2
     rw [← h9]
     exact decide_eq_false (by omega)
    subst hfg
    obtain rfl := hn rfl
    rw [forget_nil] at *
    have hkeep : 300 ≤ k := by
     unfold paceF at hp
     simp only [Prod.mk.injEq] at hp
     obtain ⟨⟨_, _, h9⟩, _, _⟩ := hp
     rw [← h9]
     by_cases c : S3.keep < (S3.learnt.length : Int)
     ·omega
     ·rw [if_neg c]; exact hkp3
    refine ih hbud ha4 hk4 ?_ (by omega) (by omega) hll3 hkeep hpl3 hd3 hsm3 ⟨C', ?_⟩
    ·rw [hl4, hlen3]; omega
    ·refine hC.trail (fun m hm => ?_) (fun m => ?_)
     ·cases anew with
      | false => exact hm
      | true => exact (back_live S3.T 0 m).1 hm
     ·cases anew with
      | false => exact List.Perm.refl _
      | true =>
       show ((S3.T.back 0).cl m).Perm _
       rw [back_cl]
end Sv
end Go.Proofs.YtjedgdamommgeaaGreat

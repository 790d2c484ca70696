/- The plain law of RupSound: what a proof without a wrong step has is so in each model of the clauses. -/
import Derived.Test.YtjbfgafkjejdjaaRupLaw3
import Derived.Test.YtjbfgafkjejdjaaRef12S
namespace Go.Proofs.Ytjbfgafkjejdjaa
namespace Rup
open Cnf

theorem so_neg {x : Int} (h : Cnf.Lit x) (m : List Bool) : soB (-x) m = !soB x m := by
  unfold soB
  rw [h.neg.w, h.w]
  simp only [Bool.false_eq_true, if_false, Int.natAbs_neg]
  have := h.ne0
  by_cases hx : x < 0
  · rw [if_neg (by omega), if_pos hx]; simp
  · rw [if_pos (by omega), if_neg hx]

/-- what is derived is so -/
theorem der_so {l : List Int} {cs : List (List Int)} {m : List Bool} (hlit : ∀ c ∈ cs, ∀ x ∈ c, Cnf.Lit x) (hl : ∀ x ∈ l, soB x m = true) (hc : ∀ c ∈ cs, ∃ x ∈ c, soB x m = true) {x : Int} (h : Up.Der l cs x) : soB x m = true :=
  h (fun x => soB x m = true) hl (fun c hcm z hz hy => by
    obtain ⟨y, hym, hys⟩ := hc c hcm
    by_cases e : y = z
    · subst e; exact hys
    · have h1 := hy y hym e
      rw [so_neg (hlit c hcm y hym), hys] at h1
      cases h1)

theorem conf_not {l : List Int} {cs : List (List Int)} {m : List Bool} (hlit : ∀ c ∈ cs, ∀ x ∈ c, Cnf.Lit x) (hl : ∀ x ∈ l, soB x m = true) (hc : ∀ c ∈ cs, ∃ x ∈ c, soB x m = true) : ¬ Up.Conf l cs := by
  rintro ⟨c, hcm, h⟩
  obtain ⟨y, hym, hys⟩ := hc c hcm
  have h1 := der_so hlit hl hc (h y hym)
  rw [so_neg (hlit c hcm y hym), hys] at h1
  cases h1

/-- each clause that is there is so in m -/
def Sat (cs : List (List Int)) (m : List Bool) : Prop := ∀ c ∈ cs, ∃ x ∈ c, soB x m = true

theorem holds_sat {cs : List (List Int)} {m : List Bool} (h : holdsB cs m = true) : Sat cs m := by
  intro c hc
  unfold holdsB at h
  rw [List.all_eq_true] at h
  have := h c hc
  rw [List.any_eq_true] at this
  exact this

theorem live_lits {C : Chk} (o : C.Ok) : ∀ c ∈ C.live, ∀ x ∈ c, Cnf.Lit x := by
  intro c hc x hx
  have h := (live_cls C o c hc).lit x hx
  have hn := o.n
  refine ⟨by unfold InI64; omega, ?_⟩
  unfold wr minI
  simp only [Bool.or_eq_false_iff, beq_eq_false_iff_ne]
  omega

theorem cut_sub {L : List (List Int)} {i : Nat} {c : List Int} (h : c ∈ Ref.cutAt L i) : c ∈ L := by
  unfold Ref.cutAt at h
  rcases List.mem_append.1 h with h | h
  · exact List.mem_of_mem_take h
  · exact List.mem_of_mem_drop h

/-- a step keeps a model; what it adds is so -/
theorem step_sound {C C' : Chk} {n : Nat} (R : C.Rest (n + 1)) {p : Bool × List Int} (hr : ∀ x ∈ p.2, InI64 x) (hs : C.step p = some C') {m : List Bool} (hm : Sat C.live m) : Sat C'.live m ∧ (p.1 = false → ∃ x ∈ p.2, soB x m = true) ∧ (∀ x ∈ p.2, Cnf.Lit x) := by
  unfold Chk.step at hs
  cases hf : formR C.n p.2 with
  | none => rw [hf] at hs; cases hs
  | some f =>
    rw [hf] at hs
    have hfo := formR_ok hr hf
    have hform : form p.2 = some f := by
      unfold formR at hf
      split at hf
      · exact hf
      · cases hf
    have hlits : ∀ x ∈ p.2, Cnf.Lit x := fun x hx => hfo.2.1 x ((form_mem hform x).2 hx)
    simp only at hs
    cases hg : p.1
    · rw [hg] at hs
      simp only [Bool.false_eq_true, if_false] at hs
      split at hs
      · rename_i hcf
        simp at hs; subst hs
        rw [Up.conf_iff (live_cls C R.ok) hfo.2.2.2] at hcf
        have hex : ∃ x ∈ f, soB x m = true := by
          apply Classical.byContradiction
          intro hno
          refine conf_not (live_lits R.ok) (fun x hx => ?_) hm hcf
          obtain ⟨y, hy, rfl⟩ := List.mem_map.1 hx
          rw [so_neg (hfo.2.1 y hy)]
          cases h : soB y m
          · rfl
          · exact (hno ⟨y, hy, h⟩).elim
        refine ⟨?_, fun _ => ?_, hlits⟩
        · rw [live_add C R.ok.len f]
          intro c hc
          rcases List.mem_append.1 hc with h | h
          · exact hm c h
          · simp at h; subst h; exact hex
        · obtain ⟨x, hx, h⟩ := hex
          exact ⟨x, (form_mem hform x).1 hx, h⟩
      · cases hs
    · rw [hg] at hs
      simp only [if_true] at hs
      split at hs
      · rename_i h
        simp at hs; subst hs
        obtain ⟨k, hk⟩ := Option.isSome_iff_exists.1 h
        have hh := dropK_hit hk
        have hdr : C.dropR f = C.dropped k := by unfold Chk.dropR; rw [hk]
        refine ⟨?_, (fun h => by cases h), hlits⟩
        rw [hdr, live_dropped hh.1 R.ok.len hh.2]
        exact fun c hc => hm c (cut_sub hc)
      · cases hs

theorem bad_ge : ∀ (ps : List (Bool × List Int)) (C : Chk) (i : Nat), C.bad ps i = -1 ∨ (i : Int) ≤ C.bad ps i
  | [], _, _ => .inl rfl
  | p :: r, C, i => by
    unfold Chk.bad
    cases C.step p with
    | none => exact .inr (Int.le_refl _)
    | some C' =>
      rcases bad_ge r C' (i + 1) with h | h
      · exact .inl h
      · simp only; exact .inr (by omega)

/-- WHAT A PROOF WITHOUT A WRONG STEP HAS IS SO. -/
theorem proof_sound : ∀ (ps : List (Bool × List Int)) (C : Chk) (i : Nat), C.Rest ps.length → (∀ p ∈ ps, ∀ x ∈ p.2, InI64 x) → C.bad ps i = -1 → ∀ m, Sat C.live m → ∀ p ∈ ps, (p.1 = false → ∃ x ∈ p.2, soB x m = true) ∧ ∀ x ∈ p.2, Cnf.Lit x
  | [], _, _, _, _, _, _, _, p, hp => by cases hp
  | q :: r, C, i, hR, hr, hb, m, hm, p, hp => by
    have hR' : C.Rest (r.length + 1) := hR
    unfold Chk.bad at hb
    cases hst : C.step q with
    | none => rw [hst] at hb; simp only at hb; omega
    | some C' =>
      rw [hst] at hb
      simp only at hb
      have hq := hr q List.mem_cons_self
      obtain ⟨h1, h2, h3⟩ := step_sound hR' hq hst hm
      obtain ⟨hr1, _⟩ := hR'.step hq hst
      rcases List.mem_cons.1 hp with e | e
      · subst e; exact ⟨h2, h3⟩
      · exact proof_sound r C' (i + 1) hr1 (fun p hp => hr p (List.mem_cons_of_mem _ hp)) hb m h1 p e

theorem not_all_neg {c : List Int} {m : List Bool} (hl : ∀ x ∈ c, Cnf.Lit x) (h : ∃ x ∈ c, soB x m = true) : (c.map fun x => IntKind.i64.wrap (-x)).all (fun x => soB x m) = false := by
  obtain ⟨x, hx, hs⟩ := h
  rw [List.all_eq_false]
  refine ⟨IntKind.i64.wrap (-x), List.mem_map.2 ⟨x, hx, rfl⟩, ?_⟩
  rw [(hl x hx).wrap, so_neg (hl x hx), hs]
  simp

/-- what Proves answers -/
def provesB (N : Nat) (css : List (List Int)) (ps : List (Bool × List Int)) (goal : List Int) : Bool :=
  if 0 ≤ (start N css).bad ps 0 then false else ps.any fun p => !p.1 && p.2.all fun x => goal.contains x
end Rup
end Go.Proofs.Ytjbfgafkjejdjaa

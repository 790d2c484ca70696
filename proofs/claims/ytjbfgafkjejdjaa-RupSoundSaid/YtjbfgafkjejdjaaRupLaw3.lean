/- The plain law of RupChecks: the checker and the document go through a proof alike. -/
import Derived.Test.YtjbfgafkjejdjaaRupLaw
import Derived.Test.YtjbfgafkjejdjaaRef21B
namespace Go.Proofs.Ytjbfgafkjejdjaa
namespace Rup

theorem liveOf_app (C : Chk) (a b : List Nat) : C.liveOf (a ++ b) = C.liveOf a ++ C.liveOf b := by unfold Chk.liveOf; rw [List.filterMap_append]
theorem liveOf_one (C : Chk) (k : Nat) : C.liveOf [k] = if C.gone.getD k false then [] else [C.cls.getD k []] := by
  unfold Chk.liveOf
  rw [List.filterMap_cons]
  cases C.gone.getD k false <;> simp

theorem lastK_app (L M : List (List Int)) (f : List Int) : ∀ k, k ≤ L.length → Ref.lastK (L ++ M) f k = Ref.lastK L f k
  | 0, _ => rfl
  | k + 1, h => by
    unfold Ref.lastK
    rw [getD_app_l _ _ _ (by omega), lastK_app L M f k (by omega)]

theorem last_drop (C : Chk) (f : List Int) : ∀ k, Ref.lastK (C.liveOf (List.range k)) f (C.liveOf (List.range k)).length = (C.dropK f k).map fun k' => (C.liveOf (List.range k')).length
  | 0 => rfl
  | k + 1 => by
    have ih := last_drop C f k
    rw [List.range_succ, liveOf_app, liveOf_one]
    unfold Chk.dropK Chk.hit
    cases hg : C.gone.getD k false
    · simp only [Bool.false_eq_true, if_false, Bool.not_false, Bool.true_and, List.length_append, List.length_singleton]
      rw [Ref.lastK, getD_app_r _ _ _ (Nat.le_refl _), Nat.sub_self, List.getD_cons_zero, lastK_app _ _ _ _ (Nat.le_refl _), ih]
      split <;> simp
    · simp only [if_true, List.append_nil, Bool.not_true, Bool.false_and, Bool.false_eq_true, if_false]
      exact ih

theorem dropK_hit {C : Chk} {f : List Int} : ∀ {k i : Nat}, C.dropK f k = some i → i < k ∧ C.hit f i = true
  | 0, i, h => by cases h
  | k + 1, i, h => by
    unfold Chk.dropK at h
    split at h
    · rename_i hh; simp at h; subst h; exact ⟨by omega, hh⟩
    · have := dropK_hit h; exact ⟨by omega, this.2⟩

theorem cut_app (A B : List (List Int)) (c : List Int) : Ref.cutAt (A ++ c :: B) A.length = A ++ B := by
  unfold Ref.cutAt
  rw [List.take_left, List.drop_append, List.drop_of_length_le (by omega)]
  simp

theorem live_dropped {C : Chk} {f : List Int} {i : Nat} (hi : i < C.cls.length) (hl : C.gone.length = C.cls.length) (hh : C.hit f i = true) : (C.dropped i).live = Ref.cutAt C.live (C.liveOf (List.range i)).length := by
  have hr : List.range C.cls.length = List.range i ++ (i :: List.range' (i + 1) (C.cls.length - i - 1)) := by
    rw [List.range_eq_range', List.range_eq_range', show C.cls.length = i + (1 + (C.cls.length - i - 1)) by omega, ← List.range'_append_1, Nat.zero_add]
    congr 1
    rw [show 1 + (C.cls.length - i - 1) = (C.cls.length - i - 1) + 1 by omega, List.range'_succ]
    congr 2
    omega
  have hg : C.gone.getD i false = false := by
    unfold Chk.hit at hh
    simp at hh
    simpa using hh.1
  unfold Chk.live
  have e : (C.dropped i).cls = C.cls := rfl
  rw [e, hr]
  have split1 : ∀ D : Chk, D.liveOf (List.range i ++ i :: List.range' (i + 1) (C.cls.length - i - 1)) = D.liveOf (List.range i) ++ (D.liveOf [i] ++ D.liveOf (List.range' (i + 1) (C.cls.length - i - 1))) := by
    intro D
    rw [liveOf_app]
    congr 1
    rw [← liveOf_app]; rfl
  rw [split1, split1, liveOf_one, liveOf_one, hg]
  have hd : (C.dropped i).gone.getD i false = true := by
    unfold Chk.dropped
    exact getD_set_same (by omega) _ _
  rw [hd]
  simp only [if_true, Bool.false_eq_true, if_false, List.nil_append, List.singleton_append]
  rw [cut_app]
  have hc : ∀ ks : List Nat, (∀ k ∈ ks, k ≠ i) → (C.dropped i).liveOf ks = C.liveOf ks := fun ks hk => liveOf_congr (fun k hkm => ⟨by
    unfold Chk.dropped
    exact getD_set_other (fun e => hk k hkm e.symm) _ _, rfl⟩)
  rw [hc _ (fun k hk => by have := List.mem_range.1 hk; omega), hc _ (fun k hk => by have := List.mem_range'_1.1 hk; omega)]

theorem form_again {n : Nat} {c f : List Int} (hr : ∀ x ∈ c, InI64 x) (h : formR n c = some f) : Cnf.form f = some f := by
  have := formR_ok hr h
  exact Cnf.form_some this.2.1 this.2.2.1 (fun _ => Iff.rfl)

theorem bad_proof : ∀ (ps : List (Bool × List Int)) (C : Chk) (N i : Nat), C.Rest ps.length → C.n = N → (∀ p ∈ ps, ∀ x ∈ p.2, InI64 x) → C.bad ps i = Ref.proof N C.live ps i
  | [], _, _, _, _, _, _ => rfl
  | p :: r, C, N, i, hR, hn, hp => by
    have hpr : ∀ p ∈ r, ∀ x ∈ p.2, InI64 x := fun q hq => hp q (List.mem_cons_of_mem _ hq)
    have hpx := hp p List.mem_cons_self
    have hR' : C.Rest (r.length + 1) := hR
    subst hn
    unfold Chk.bad Ref.proof
    cases hst : C.step p with
    | none =>
      unfold Chk.step at hst
      cases hf : formR C.n p.2 with
      | none => rfl
      | some f =>
        rw [hf] at hst
        simp only at hst ⊢
        cases hg : p.1
        · rw [hg] at hst
          simp only [Bool.false_eq_true, if_false] at hst ⊢
          have hfo := formR_ok hpx hf
          have e : refFollows C.n C.live f = (Up.conf C.n C.live (f.map fun x => -x)).2 := by
            unfold refFollows
            rw [form_again hpx hf]
            exact Up.conf_all (live_cls C hR.ok) hfo.2.2.2
          rw [e]
          split at hst
          · cases hst
          · rename_i h; rw [if_neg h]
        · rw [hg] at hst
          simp only [if_true] at hst ⊢
          have hl := last_drop C f C.cls.length
          split at hst
          · cases hst
          · rename_i h
            have hd : C.dropK f C.cls.length = none := by
              cases hd : C.dropK f C.cls.length with
              | none => rfl
              | some k => rw [hd] at h; simp at h
            rw [hd] at hl
            have hl' : Ref.lastK C.live f C.live.length = none := hl
            rw [hl']
    | some C' =>
      obtain ⟨hr1, hn1⟩ := hR'.step hpx hst
      have ih := bad_proof r C' C.n (i + 1) hr1 hn1 hpr
      simp only
      rw [ih]
      unfold Chk.step at hst
      cases hf : formR C.n p.2 with
      | none => rw [hf] at hst; cases hst
      | some f =>
        rw [hf] at hst
        simp only at hst ⊢
        cases hg : p.1
        · rw [hg] at hst
          simp only [Bool.false_eq_true, if_false] at hst ⊢
          have hfo := formR_ok hpx hf
          have e : refFollows C.n C.live f = (Up.conf C.n C.live (f.map fun x => -x)).2 := by
            unfold refFollows
            rw [form_again hpx hf]
            exact Up.conf_all (live_cls C hR.ok) hfo.2.2.2
          rw [e]
          split at hst
          · rename_i h
            simp at hst; subst hst
            rw [if_pos h, live_add C hR.ok.len f]
          · cases hst
        · rw [hg] at hst
          simp only [if_true] at hst ⊢
          have hl := last_drop C f C.cls.length
          split at hst
          · rename_i h
            simp at hst; subst hst
            obtain ⟨k, hk⟩ := Option.isSome_iff_exists.1 h
            rw [hk] at hl
            have hl' : Ref.lastK C.live f C.live.length = some (C.liveOf (List.range k)).length := hl
            rw [hl']
            have hh := dropK_hit hk
            have hdr : C.dropR f = C.dropped k := by unfold Chk.dropR; rw [hk]
            simp only
            rw [hdr, live_dropped hh.1 hR.ok.len hh.2]
          · cases hst
end Rup
end Go.Proofs.Ytjbfgafkjejdjaa

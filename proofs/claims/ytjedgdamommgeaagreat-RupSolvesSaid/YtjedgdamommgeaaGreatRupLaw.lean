/- The plain laws of package rup: what its checker answers is what the document says. -/
import Derived.Test.YtjedgdamommgeaaGreatRupC
import Derived.Test.YtjedgdamommgeaaGreatRef21
set_option linter.unusedVariables false
namespace Go.Proofs.YtjedgdamommgeaaGreat
namespace Rup
theorem liveOf_congr {C D : Chk} {ks : List Nat} (h : ∀ k ∈ ks, C.gone.getD k false = D.gone.getD k false ∧ C.cls.getD k [] = D.cls.getD k []) : C.liveOf ks = D.liveOf ks := by
 unfold Chk.liveOf
 induction ks with
 | nil => rfl
 | cons k r ih =>
  obtain ⟨h1, h2⟩ := h k List.mem_cons_self
  rw [List.filterMap_cons, List.filterMap_cons, h1, h2, ih (fun k hk => h k (List.mem_cons_of_mem _ hk))]
theorem live_add (C : Chk) (hl : C.gone.length = C.cls.length) (f : List Int) : (C.add f).live = C.live ++ [f] := by
 unfold Chk.live
 have e : (C.add f).cls.length = C.cls.length + 1 := by simp [Chk.add]
 rw [e, List.range_succ]
 have h1 : (C.add f).liveOf (List.range C.cls.length ++ [C.cls.length]) = (C.add f).liveOf (List.range C.cls.length) ++ (C.add f).liveOf [C.cls.length] := by
  unfold Chk.liveOf; rw [List.filterMap_append]
 rw [h1, liveOf_congr (D := C)]
 ·congr 1
  unfold Chk.liveOf
  have hg : (C.add f).gone.getD C.cls.length false = false := by
   simp only [Chk.add]
   rw [getD_app_r _ _ _ (by omega), hl]
   simp
  have hc : (C.add f).cls.getD C.cls.length [] = f := by
   simp only [Chk.add]
   rw [getD_app_r _ _ _ (Nat.le_refl _)]
   simp
  rw [List.filterMap_cons, hg, hc]
  rfl
 ·intro k hk
  have hk' := List.mem_range.1 hk
  simp only [Chk.add]
  exact ⟨getD_app_l _ _ _ (by omega), getD_app_l _ _ _ hk'⟩
theorem more_glen {C : Chk} (hl : C.gone.length = C.cls.length) (c : List Int) : (C.more c).gone.length = (C.more c).cls.length := by
 unfold Chk.more
 split
 ·exact hl
 ·simp [Chk.add, hl]
theorem all_live : ∀ (css : List (List Int)) (C : Chk), C.gone.length = C.cls.length → (C.all css).live = C.live ++ css.filterMap (formR C.n)
 | [], C, _ => by simp [Chk.all]
 | c :: r, C, hl => by
  have h1 := all_live r (C.more c) (more_glen hl c)
  have e : C.all (c :: r) = (C.more c).all r := rfl
  rw [e, h1, more_n, List.filterMap_cons]
  unfold Chk.more
  cases hf : formR C.n c with
  | none => rfl
  | some f =>
   simp only
   rw [live_add C hl f, List.append_assoc]
   rfl
theorem start_live (N : Nat) (css : List (List Int)) : (start N css).live = css.filterMap (formR N) := by
 unfold start
 rw [all_live css (Chk.zero N) rfl]
 rfl
theorem form_lits {xs : List Int} (hl : ∀ x ∈ xs, x ≠ 0 ∧ x.natAbs ≤ 65536) (hs : Cnf.AbsStrict xs) : Cnf.form xs = some xs := by
 refine Cnf.form_some (fun x hx => ?_) hs (fun _ => Iff.rfl)
 have h := hl x hx
 refine ⟨by unfold InI64; omega, ?_⟩
 unfold Cnf.wr Cnf.minI
 simp only [Bool.or_eq_false_iff, beq_eq_false_iff_ne]
 omega
theorem okAt_lit {n : Nat} {x : Int} (h : x ≠ 0 ∧ x.natAbs ≤ n) (hn : n ≤ 65536) : Cnf.okAt n x = true := by
 unfold Cnf.okAt Cnf.wr Cnf.minI
 simp only [Bool.and_eq_true, Bool.not_eq_true', Bool.or_eq_false_iff, beq_eq_false_iff_ne, decide_eq_true_eq]
 omega
theorem formR_lits {n : Nat} (hn : n ≤ 65536) {xs : List Int} (hl : ∀ x ∈ xs, x ≠ 0 ∧ x.natAbs ≤ n) (hs : Cnf.AbsStrict xs) : formR n xs = some xs := by
 have hf := form_lits (fun x hx => ⟨(hl x hx).1, by have := (hl x hx).2; omega⟩) hs
 rw [formR_some hf, if_neg]
 rw [Bool.not_eq_true, List.any_eq_false]
 intro x hx
 rw [okAt_lit (hl x hx) hn]
 simp
theorem ex_start : (start 2 [[1, 2], [-1, 2]]).live = [[1, 2], [-1, 2]] := by
 rw [start_live, List.filterMap_cons, formR_lits (by decide) (by decide) (by simp [Cnf.AbsStrict]), List.filterMap_cons, formR_lits (by decide) (by decide) (by simp [Cnf.AbsStrict])]
 rfl
theorem ex_follows2 : followsB 2 [[1, 2], [-1, 2]] [2] = true := by
 unfold followsB
 rw [form_lits (by decide) (by simp [Cnf.AbsStrict]), ex_start]
 decide
theorem ex_follows1 : followsB 2 [[1, 2], [-1, 2]] [1] = false := by
 unfold followsB
 rw [form_lits (by decide) (by simp [Cnf.AbsStrict]), ex_start]
 decide
theorem ex_check : (start 2 [[1, 2], [-1, 2]]).bad [(false, [2])] 0 = -1 := by
 have hn : (start 2 [[1, 2], [-1, 2]]).n = 2 := (all_n _ _).trans rfl
 unfold Chk.bad Chk.step
 rw [hn]
 have hfr : formR ((2 : Nat) : Int) [2] = some [2] := formR_lits (by decide) (by decide) (by simp [Cnf.AbsStrict])
 rw [hfr, ex_start]
 have h : (Up.conf 2 [[1, 2], [-1, 2]] (([2] : List Int).map fun x => -x)).2 = true := by decide
 simp only [Bool.false_eq_true, if_false]
 rw [if_pos h]
 rfl
end Rup
end Go.Proofs.YtjedgdamommgeaaGreat

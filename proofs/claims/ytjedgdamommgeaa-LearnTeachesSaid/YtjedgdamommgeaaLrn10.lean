/- Sorting by atom, where the atoms are all different; the walk of learn.Why$1. -/
import Derived.Test.YtjedgdamommgeaaLrn9
set_option linter.unusedVariables false
namespace Go.Proofs.Ytjedgdamommgeaa
open Go.RowKit Go.Sort Go.Lib
open Tr

namespace Tr
def cfA (x y : Int) : Int := Lib.compareInt (Cnf.absW x) (Cnf.absW y)
theorem ltA (x y : Int) : ltOf cfA x y = decide (Cnf.absW x < Cnf.absW y) := by
  unfold ltOf cfA Lib.compareInt
  split
  · simp_all
  · split <;> simp_all <;> omega
theorem swoA : SWO (ltOf cfA) where
  irrefl x := by rw [ltA]; simp
  trans x y z h1 h2 := by rw [ltA, decide_eq_true_eq] at *; omega
  ntrans x y z h1 h2 := by rw [ltA, decide_eq_false_iff_not] at *; omega
def sortA (xs : List Int) : List Int := xs.mergeSort fun x y => !(ltOf cfA) y x
end Tr

theorem Why1_any (w : World) (x y : Int) : Calls Try.prog 51 #[.int .i64 x, .int .i64 y] w fun e w' => e = .returned (.int .i64 (cfA x y)) ∧ w' = w := by
  obtain ⟨ax, hax⟩ : ∃ a, Cnf.absW x = a := ⟨_, rfl⟩
  obtain ⟨ay, hay⟩ : ∃ a, Cnf.absW y = a := ⟨_, rfl⟩
  unfold cfA
  rw [hax, hay]
  have c1 := fun W => (Try.cmp_Compare_int ax ay W).mono fun _ _ h => (⟨h.1, h.2.symm⟩ : _ ∧ W = _)
  have a1 := fun W : World => learn_abs_any (w := W) x ax hax
  have a2 := fun W : World => learn_abs_any (w := W) y ay hay
  have C1 := Lib.hid c1
  have A1 := Lib.hid a1
  have A2 := Lib.hid a2
  clear c1 a1 a2 hax hay
  generalize Lib.compareInt ax ay = p at *
  go_enter Try.func51, Try.ntmps51
  go_wp2_with fail
  refine (A1.out _).mono ?_
  rintro e w1 ⟨rfl, rfl⟩
  go_wp2_with fail
  refine (A2.out _).mono ?_
  rintro e w1 ⟨rfl, rfl⟩
  go_wp2_with fail
  refine (C1.out _).mono ?_
  rintro e w1 ⟨rfl, rfl⟩
  go_wp2_with fail
  go_ret
  exact ⟨rfl, rfl⟩

theorem sortA_of {xs : List Int} (hd : ∀ x ∈ xs, ∀ y ∈ xs, Cnf.absW x = Cnf.absW y → x = y) {d' : Array Int} (hP : PermIn 0 xs.toArray.size xs.toArray d') (hSo : SortedIn (ltOf cfA) 0 xs.toArray.size d') : d' = (sortA xs).toArray := by
  obtain ⟨hsz, _, hperm⟩ := hP
  have e1 : d'.extract 0 xs.toArray.size = d' := by rw [← hsz]; exact Array.extract_size
  rw [e1, Array.extract_size] at hperm
  have hl : d'.toList = sortA xs := by
    refine List.Perm.eq_of_pairwise (le := fun x y => (!(ltOf cfA) y x) = true) ?_ ?_ ?_ (hperm.trans (List.mergeSort_perm _ _).symm)
    · intro a b ha hb h1 h2
      simp only [Bool.not_eq_true', ltA, decide_eq_false_iff_not] at h1 h2
      refine hd a ?_ b ?_ (by omega)
      · simpa using hperm.mem_iff.1 ha
      · exact (List.mergeSort_perm _ _).mem_iff.1 hb
    · rw [List.pairwise_iff_getElem]
      intro i j hi hj hij
      have hi' : i < d'.size := by simpa using hi
      have hj' : j < d'.size := by simpa using hj
      have := hSo i j (Nat.zero_le _) hij (by omega)
      rw [getElem!_pos d' j hj', getElem!_pos d' i hi'] at this
      simpa using this
    · refine List.pairwise_mergeSort ?_ ?_ _
      · intro a b c h1 h2
        simp only [Bool.not_eq_true'] at h1 h2 ⊢
        exact swoA.ntrans c b a h2 h1
      · intro a b
        cases h : (ltOf cfA) b a with
        | false => simp
        | true =>
          have := h
          rw [ltA, decide_eq_true_eq] at this
          have h2 : (ltOf cfA) a b = false := by rw [ltA, decide_eq_false_iff_not]; omega
          simp [h2]
  rw [← hl]

theorem enter_Why1 : ∀ args w, (callFunc 51 args).run Try.prog w = .ok (.enter 51 args) w := enters_of Try.func51 (by kernel_rfl) rfl

theorem SortU_any {w : World} {v : Value} {xs : List Int} (h : w.ownsRow 0 3 1 v xs.length (xs.map cI)) (hb : xs.length ≤ 17592186043904) (hd : ∀ x ∈ xs, ∀ y ∈ xs, Cnf.absW x = Cnf.absW y → x = y) :
    Calls Try.prog 50 #[v, .func (.func 51) #[] #[]] w fun e w' => e = .returned (.tuple #[]) ∧ w'.ownsRow 0 3 1 v xs.length ((sortA xs).map cI) ∧ Only (fun k => v.ownBlock = some k) w w' := by
  have hla : (sortA xs).length = xs.length := (List.mergeSort_perm xs _).length_eq
  by_cases h0 : xs.length = 0
  · have hx : xs = [] := List.eq_nil_of_length_eq_zero h0
    subst hx
    obtain ⟨ao, cap, rfl, _, _⟩ := own_slice h
    refine (Try.slices_SortFunc_none (α := Int) ao cap _ w).mono fun e w' ⟨he, hw⟩ => ⟨he, ?_, ?_⟩
    · rw [hw]; simpa [sortA] using h
    · rw [hw]; exact Only.refl _ _
  · obtain ⟨gb, cap, rfl, _, _⟩ := own_some h (by omega)
    have hH := own_holds h
    have hlt := own_lt h (k := gb) rfl
    have key := Any.slices_SortFunc Try.laysSlF6_f50 (Value.int .i64) (fun _ => rfl) cfA swoA 51 #[] gb 0 cap xs.toArray w enter_Why1 (fun m os dk _ x y => (Why1_any _ x y).mono fun _ w' ⟨he, hw⟩ => ⟨he, 0, #[], by rw [hw]; first | rfl | simp [grow]⟩) hH hlt (by simp; omega)
    simp only [List.size_toArray] at key
    refine key.mono fun e w' ⟨he, d', n, os, hp, hs, hw⟩ => ⟨he, ?_, ?_⟩
    · have e1 := sortA_of hd (by simpa using hp) (by simpa using hs)
      subst e1
      subst hw
      unfold sortWorld
      have h1 := own_putRow (w := Sort.ahead w n) (g := gb) (n := xs.length) (cap := cap) (e := 3) h (sortA xs).toArray (by simp [hla])
      have h2 := own_only h1 (only_grow (Only.refl (fun _ => False) _) os) (fun _ _ f => f)
      simpa using h2
    · subst hw
      unfold sortWorld
      refine only_grow ?_ os
      have := (only_ahead (Only.refl (fun k => k = gb) w) n).same (only_putRow (Sort.ahead w n) gb d')
      exact this.mono fun i hi => by subst hi; rfl
end Go.Proofs.Ytjedgdamommgeaa

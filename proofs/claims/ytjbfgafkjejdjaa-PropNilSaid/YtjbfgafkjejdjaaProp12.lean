/- The walks of (*prop.Trail).List, prop.New; nil receivers. -/
import Derived.Test.YtjbfgafkjejdjaaProp4
import Derived.Test.YtjbfgafkjejdjaaRegion4
import Derived.Test.YtjbfgafkjejdjaaSlicesI
import Derived.Test.YtjbfgafkjejdjaaPropP6
namespace Go.Proofs.Ytjbfgafkjejdjaa
open Go.RowKit
open Tr

section
variable {w : World} {g : Tag} {b : Nat} {V : TrV} {T : Trail}

theorem prop_List_any (H : TrAt w g b V T) (o : Ok T) : Calls Try.prog 39 #[.pointer (some ⟨b, 0, none⟩)] w fun e w' => ∃ v, e = .returned v ∧ w'.ownsRow 0 3 1 v T.lits.length (T.lits.map cI) ∧ (∀ k, v.ownBlock = some k → w.heap.size ≤ k) ∧ Only (fun _ => False) w w' := by
  have hn := o.n
  have hel := o.len
  have hr : ∀ x ∈ T.lits, InI64 x := fun x hx => by have := o.good.lit x hx; unfold InI64; omega
  have hI : Ints w V.vl T.lits := H.l.ints hr
  have hC := Clone_any hI (by rw [lits_len]; omega)
  have q4 := H.f4
  obtain ⟨al, cl, hvl, -, -⟩ := H.l.shape
  simp only [List.length_map] at hvl
  rw [hvl] at q4 hC
  have HC := Lib.hid hC
  clear hC hI H o hvl
  go_enter Try.func39, Try.ntmps39
  go_wp2_with fail
  refine HC.out.mono ?_
  rintro e w2 ⟨vf, rfl, R1, N1, O2⟩
  have hres : ∃ v, Ending.returned vf = Ending.returned v ∧ w2.ownsRow 0 3 1 v T.lits.length (T.lits.map cI) ∧ (∀ k, v.ownBlock = some k → w.heap.size ≤ k) ∧ Only (fun _ => False) w w2 := ⟨vf, rfl, R1, N1, O2⟩
  have HR := Lib.hid hres
  clear hres R1 N1 O2
  go_wp2_with fail
  go_ret
  exact HR.out

theorem prop_List_nil : Calls Try.prog 39 #[.pointer none] w fun e w' => e = .returned (.slice none 0 0) ∧ w = w' := by
  go_enter Try.func39, Try.ntmps39
  go_wp2_with fail
  go_ret
  exact ⟨rfl, rfl⟩
theorem prop_Level_nil : Calls Try.prog 41 #[.pointer none] w fun e w' => e = .returned (.int .i64 0) ∧ w = w' := by
  go_enter Try.func41, Try.ntmps41
  go_wp2_with fail
  go_ret
  exact ⟨rfl, rfl⟩
theorem prop_Clauses_nil : Calls Try.prog 45 #[.pointer none] w fun e w' => e = .returned (.int .i64 0) ∧ w = w' := by
  go_enter Try.func45, Try.ntmps45
  go_wp2_with fail
  go_ret
  exact ⟨rfl, rfl⟩
theorem prop_Set_nil (x r : Int) : Calls Try.prog 43 #[.pointer none, .int .i64 x, .int .i64 r] w fun e w' => e = .returned (.bool false) ∧ w = w' := by
  have hI := prop_is_nil (w := w) x
  have HI := Lib.hid hI
  clear hI
  go_enter Try.func43, Try.ntmps43
  go_wp2_with fail
  refine HI.out.mono ?_
  rintro e w' ⟨rfl, rfl⟩
  go_wp2_with fail
  go_ret
  exact ⟨rfl, rfl⟩
theorem prop_Back_nil (x : Int) : Calls Try.prog 40 #[.pointer none, .int .i64 x] w fun e w' => e = .returned (.tuple #[]) ∧ w = w' := by
  go_enter Try.func40, Try.ntmps40
  go_wp2_with fail
  all_goals (((try simp only [Exit.inBlock, Exit.then]); refine bodyPost_ret (results_none rfl _ _ _) rfl ?_); exact ⟨rfl, rfl⟩)
theorem prop_Drop_nil (x : Int) : Calls Try.prog 42 #[.pointer none, .int .i64 x] w fun e w' => e = .returned (.tuple #[]) ∧ Only (fun _ => False) w w' := by
  have hI := fun W : World => prop_there_nil (w := W) x
  have HI := Lib.hid hI
  clear hI
  go_enter Try.func42, Try.ntmps42
  go_wp2_with fail
  refine (HI.out _).mono ?_
  rintro e w' ⟨rfl, rfl⟩
  go_wp2_with fail
  ((try simp only [Exit.inBlock, Exit.then]); refine bodyPost_ret (results_none rfl _ _ _) rfl ?_)
  exact ⟨rfl, (Only.refl _ _).alloc _⟩
theorem prop_Clause_nil (x : Int) : Calls Try.prog 44 #[.pointer none, .int .i64 x] w fun e w' => e = .returned (.slice none 0 0) ∧ w = w' := by
  have hI := prop_there_nil (w := w) x
  have HI := Lib.hid hI
  clear hI
  go_enter Try.func44, Try.ntmps44
  go_wp2_with fail
  refine HI.out.mono ?_
  rintro e w' ⟨rfl, rfl⟩
  go_wp2_with fail
  go_ret
  exact ⟨rfl, rfl⟩
theorem prop_At_nil (x : Int) : Calls Try.prog 37 #[.pointer none, .int .i64 x] w fun e w' => e = .returned (.tuple #[.int .i64 (-1), .int .i64 (-1)]) ∧ w = w' := by
  have hI := prop_Value_nil (w := w) x
  have HI := Lib.hid hI
  clear hI
  by_cases h1 : x < 1
  · have d1 : decide (x < 1) = true := decide_eq_true h1
    go_enter Try.func37, Try.ntmps37
    go_wp2_with fail
    go_ret2
    exact ⟨rfl, rfl⟩
  · have d1 : decide (x < 1) = false := decide_eq_false h1
    go_enter Try.func37, Try.ntmps37
    go_wp2_with fail
    refine HI.out.mono ?_
    rintro e w' ⟨rfl, rfl⟩
    go_wp2_with fail
    go_ret2
    exact ⟨rfl, rfl⟩
end
end Go.Proofs.Ytjbfgafkjejdjaa

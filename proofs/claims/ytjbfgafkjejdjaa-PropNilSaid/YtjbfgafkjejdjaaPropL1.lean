/- The walks of cooperlaw18.fixed and cooperlaw18.PropNil. -/
import Derived.Test.YtjbfgafkjejdjaaPropO
import Derived.Test.YtjbfgafkjejdjaaRef12
namespace Go.Proofs.Ytjbfgafkjejdjaa
open Go.RowKit
open Tr

theorem ints_blk {w : World} {b : Nat} {xs : List Int} {t : TypeId} {f : Nat × Nat} (h : w.heap[b]? = some (.cells (xs.map cI).toArray t f)) (hr : ∀ x ∈ xs, InI64 x) (hl : xs.length ≤ 9223372036854775807) : Ints w (.slice (some ⟨b, 0, none⟩) xs.length xs.length) xs := by
  refine ⟨⟨_, _, rfl, Nat.le_refl _, hl⟩, fun ao len cap hv hp => ?_, hr, fun len cap hv => by simp at hv⟩
  simp only [Value.slice.injEq] at hv
  obtain ⟨rfl, rfl, rfl⟩ := hv
  refine ⟨b, 0, rfl, lt_block h, fun i hi => ?_⟩
  rw [cell_block h]
  simp [List.getD_eq_getElem?_getD, hi]
theorem ints_mk (w : World) (xs : List Int) (t : TypeId) (n : Nat) (hn : n = w.heap.size) (hr : ∀ x ∈ xs, InI64 x) (hl : xs.length ≤ 9223372036854775807) : Ints (w.alloc (.cells (xs.map cI).toArray t)) (.slice (some ⟨n, 0, none⟩) xs.length xs.length) xs := by
  subst hn
  exact ints_blk (heap_alloc_new w _) hr hl

namespace Tr
theorem addX_form {T : Trail} {xs f : List Int} (h : Cnf.form xs = some f) (ha : ∀ x ∈ f, x ≠ 0 ∧ x.natAbs ≤ T.n) : T.addX xs = T.add f := by
  unfold Trail.addX
  rw [h]
  have : f.all T.is = true := List.all_eq_true.2 fun x hx => is_iff.2 (ha x hx)
  simp only [this, if_true]

theorem lit_of {x : Int} (h0 : x ≠ 0) (h1 : x.natAbs ≤ 65536) : Cnf.Lit x := by
  refine ⟨by unfold InI64; omega, ?_⟩
  unfold Cnf.wr Cnf.minI
  simp only [Bool.or_eq_false_iff, beq_eq_false_iff_ne]
  omega

theorem form_self {xs : List Int} (hx : ∀ x ∈ xs, x ≠ 0 ∧ x.natAbs ≤ 65536) (ha : Cnf.AbsStrict xs) : Cnf.form xs = some xs :=
  Cnf.form_some (fun x h => lit_of (hx x h).1 (hx x h).2) ha (fun _ => Iff.rfl)

theorem ex18_add1 : (Tr.new 3).addX [-1, 2] = (Tr.new 3).add [-1, 2] := addX_form (form_self (by decide) (by unfold Cnf.AbsStrict; decide)) (by decide)
theorem ex18_add2 : ((Tr.new 3).add [-1, 2]).addX [-2, 3] = ((Tr.new 3).add [-1, 2]).add [-2, 3] := addX_form (form_self (by decide) (by unfold Cnf.AbsStrict; decide)) (by decide)
theorem ex18_i0 : Inv (Tr.new 3) := Inv.new (by decide)
theorem good_of {n : Nat} {c : List Int} (h1 : ∀ x ∈ c, x ≠ 0 ∧ x.natAbs ≤ n) (h2 : (c.map Int.natAbs).Nodup) : Up.Good n c := ⟨h1, h2⟩
theorem ex18_i1 : Inv ((Tr.new 3).add [-1, 2]) := ex18_i0.add (good_of (by decide) (by decide)) (by decide)
theorem ex18_i2 : Inv (((Tr.new 3).add [-1, 2]).add [-2, 3]) := ex18_i1.add (good_of (by decide) (by decide)) (by decide)
theorem ex18_dec : (((Tr.new 3).add [-1, 2]).add [-2, 3]).decX 1 = ex18 ∧ (((Tr.new 3).add [-1, 2]).add [-2, 3]).decR 1 = true := by
  have h : (((Tr.new 3).add [-1, 2]).add [-2, 3]).is 1 = true ∧ (((Tr.new 3).add [-1, 2]).add [-2, 3]).val 1 = 0 := ⟨by decide, by decide⟩
  unfold Trail.decX Trail.decR
  rw [if_pos h, decide_eq_true h]
  exact ⟨rfl, rfl⟩
theorem ex18_i3 : Inv ex18 := ex18_i2.decide (by decide) (by decide)
theorem ex18_end {T' : Trail} {r : Int} (h : Foll ex18 T' r) : r = -1 ∧ T'.lits = [1, 2, 3] ∧ Inv T' := by
  obtain ⟨p, h1, h2, h3⟩ := ex18_foll
  have := follF_eq h 12 p h1
  subst this
  exact ⟨h2, h3, (foll_post h ex18_i3).1⟩
end Tr

section
variable {w : World}

set_option maxHeartbeats 1600000 in
theorem prop_fixed_any : Calls Try.prog 32 #[] w fun e w' => e = .returned (.bool true) ∧ Only (fun _ => False) w w' := by
  go_enter Try.func32, Try.ntmps32
  go_wp2_with fail
  refine (one_New w 3 (by unfold InI64; omega) 3 (by decide)).mono ?_
  rintro e w1 ⟨b, rfl, H1⟩
  go_wp2_with fail
  refine (one_Add (H1.quiet ((Only.refl _ _).alloc _)) ex18_i0 (by decide) (ints_mk w1 [-1, 2] 3 _ rfl (by simp [InI64]) (by decide)) (by decide)).mono ?_
  rintro e w2 ⟨rfl, H2⟩
  rw [ex18_add1] at H2
  go_wp2_with fail
  refine (one_Add (H2.quiet ((Only.refl _ _).alloc _)) ex18_i1 (by decide) (ints_mk w2 [-2, 3] 3 _ rfl (by simp [InI64]) (by decide)) (by decide)).mono ?_
  rintro e w3 ⟨rfl, H3⟩
  rw [ex18_add2] at H3
  go_wp2_with fail
  refine (one_Decide H3 ex18_i2.ok 1 (by unfold InI64; omega)).mono ?_
  rintro e w4 ⟨rfl, H4⟩
  rw [ex18_dec.1] at H4
  rw [ex18_dec.2]
  go_wp2_with fail
  refine (one_Follow H4 ex18_i3).mono ?_
  rintro e w5 ⟨r, T', rfl, hf, H5⟩
  obtain ⟨rfl, hl, i5⟩ := ex18_end hf
  have HL := Lib.hid hl
  clear hl hf
  go_wp2_with fail
  refine (one_List H5 i5.ok).mono ?_
  rintro e w6 ⟨v, rfl, R6, N6, O6⟩
  rw [HL.out] at R6
  have I6 := Ints.of_own (xs := [1, 2, 3]) R6 (by simp [InI64])
  obtain ⟨av, cv, rfl, -, -⟩ := I6.shape
  have O6' : Only (fun _ => False) w w6 := H5.on.same O6
  clear H5 R6 N6 O6
  go_wp2_with fail
  refine (Same_any (I6.only0 ((Only.refl _ _).alloc _)) (ints_mk w6 [1, 2, 3] 3 _ rfl (by simp [InI64]) (by decide))).mono ?_
  rintro e w7 ⟨rfl, O7⟩
  go_wp2_with fail
  go_ret
  exact ⟨rfl, (O6'.alloc _).same O7⟩

set_option maxHeartbeats 1600000 in
theorem PropNil_walk {v : Value} {c : List Int} {n : Int} (hI : Ints w v c) (hb : c.length ≤ 17592186043904) :
    Calls Try.prog 11 #[v, .int .i64 n] w fun e w' => e = .returned (.bool true) ∧ Only (fun _ => False) w w' := by
  obtain ⟨ac, cc, rfl, _, _⟩ := hI.shape
  go_enter Try.func11, Try.ntmps11
  go_wp2_with fail
  refine (prop_Drop_nil n).mono ?_
  rintro e w1 ⟨rfl, O1⟩
  go_wp2_with fail
  refine (prop_Back_nil n).mono ?_
  rintro e w1 ⟨rfl, rfl⟩
  go_wp2_with fail
  refine (prop_At_nil n).mono ?_
  rintro e w1 ⟨rfl, rfl⟩
  go_wp2_with fail
  refine prop_fixed_any.mono ?_
  rintro e w2 ⟨rfl, O2⟩
  go_wp2_with fail
  refine (prop_Add_nil (hI.only0 (O1.same O2)) hb).mono ?_
  rintro e w3 ⟨rfl, O3⟩
  go_wp2_with fail
  refine prop_Follow_nil.mono ?_
  rintro e w4 ⟨rfl, rfl⟩
  go_wp2_with fail
  refine (prop_Decide_nil n).mono ?_
  rintro e w4 ⟨rfl, rfl⟩
  go_wp2_with fail
  refine (prop_Set_nil n 0).mono ?_
  rintro e w4 ⟨rfl, rfl⟩
  go_wp2_with fail
  refine (prop_Value_nil n).mono ?_
  rintro e w4 ⟨rfl, rfl⟩
  go_wp2_with fail
  refine prop_Level_nil.mono ?_
  rintro e w4 ⟨rfl, rfl⟩
  go_wp2_with fail
  refine prop_List_nil.mono ?_
  rintro e w4 ⟨rfl, rfl⟩
  go_wp2_with fail
  refine (prop_Clause_nil n).mono ?_
  rintro e w4 ⟨rfl, rfl⟩
  go_wp2_with fail
  refine prop_Clauses_nil.mono ?_
  rintro e w4 ⟨rfl, rfl⟩
  go_wp2_with fail
  go_ret
  exact ⟨rfl, (O1.same O2).same O3⟩
end
end Go.Proofs.Ytjbfgafkjejdjaa

/- slices.Sorted(maps.Keys(m)) at a map of ints; the walk of others$1. -/
import Derived.Test.YtjedgdamommgeaaLrn5
set_option linter.unusedVariables false
namespace Go.Proofs.Ytjedgdamommgeaa
open Go.RowKit Go.Maps Go.Sort Go.Shelf
open Tr

namespace Tr
theorem sortI_perm (l : List Int) : (sortI l).Perm l := List.mergeSort_perm l _
theorem sortI_sorted (l : List Int) : (sortI l).Pairwise (· ≤ ·) := by
  have h := List.pairwise_mergeSort (le := fun x y : Int => decide (x ≤ y)) (by intro a b c; simp; omega) (by intro a b; simp; omega) l
  exact h.imp fun h => by simpa using h
theorem sortI_of_perm {l m : List Int} (h : l.Perm m) : sortI l = sortI m :=
  List.Perm.eq_of_pairwise (le := fun x y : Int => x ≤ y) (fun a b _ _ h1 h2 => by omega) (sortI_sorted l) (sortI_sorted m) (((sortI_perm l).trans h).trans (sortI_perm m).symm)
theorem sortI_len (l : List Int) : (sortI l).length = l.length := (sortI_perm l).length_eq
theorem mem_sortI {l : List Int} {x : Int} : x ∈ sortI l ↔ x ∈ l := (sortI_perm l).mem_iff
end Tr

theorem Try.sortsA (m : Nat) : AnyZI.SortsIn Try.prog Try.sortedA_ren Fence.wide m :=
  ⟨fun blk off cap ss W hH hblk hsz => callsIn_wide.2 (AnyM.slices_Sort_int Try.sortA blk off cap ss W hH hblk hsz),
   fun p cap W => callsIn_wide.2 (AnyM.slices_Sort_int_none Try.sortA p cap W)⟩

section
variable {w : World} {B : Nat} {ks : List Int} {f : Int → Int}

/-- the keys' iterator -/
abbrev keysF (w : World) : Value := .func (.func 64) #[] #[.pointer (some ⟨w.heap.size, 0, none⟩)]
theorem keys_any (w : World) (B : Nat) : Calls Try.prog 41 #[.map (some B)] w fun e w' => e = .returned (keysF w) ∧ w' = w.alloc (.cells #[.map (some B)] 62) := by
  refine (callsIn_wide (n := 5)).1 ?_
  exact AnyZI.keys_in Try.keysA Fence.wide 5 trivial rfl (some B) w

theorem sorted_any (h : IMap w B ks f) (hl : ks.length ≤ 65536) : Calls Try.prog 40 #[keysF w] (w.alloc (.cells #[.map (some B)] 62)) fun e w' =>
    ∃ v, e = .returned v ∧ w'.ownsRow 0 3 1 v (sortI ks).length ((sortI ks).map cI) ∧ (∀ k, v.ownBlock = some k → w.heap.size ≤ k) ∧ Only (fun _ => False) w w' := by
  obtain ⟨D, hown, hp, hsz⟩ := h.keys
  have hbl := hown.lt
  have hseq : SeqGives Fence.wide 2 Try.prog 64 #[.pointer (some ⟨w.heap.size, 0, none⟩)] encZ (fun ss => ss.Perm (intKeys D)) (Maps.size D) (w.alloc (.cells #[.map (some B)] 62)) :=
    AnyZI.keys_gives (ρ := Try.keysA_ren) { Try.keysA with } Fence.wide _ trivial rfl (by omega) w.heap.size B ks.length D _ (by simp) (by simp) (by
      obtain ⟨es, clock, hb, Ft, hs, hD⟩ := hown
      exact ⟨es, clock, (Below.heap_alloc _ _ B hbl).trans hb, Ft, hs, hD⟩)
  have cS := AnyZI.sorted_in Try.sortedA Fence.wide 5 trivial trivial trivial trivial rfl (by omega) (Try.sortsA _) (enters_of Try.func63 (by kernel_rfl) rfl) 64 #[.pointer (some ⟨w.heap.size, 0, none⟩)] trivial (enters_of Try.func64 (by kernel_rfl) rfl) _ _ (by rw [hsz]; unfold maxLen; omega) (by rw [hsz]; omega) _ hseq
  refine ((callsIn_wide (n := 5)).1 cS).mono ?_
  rintro e w' ⟨v, ss, rfl, hS, hrow, -, hb⟩
  have e1 : ss.mergeSort (fun x y => decide (x ≤ y)) = sortI ks := sortI_of_perm (hS.trans hp.symm)
  have e2 : ss.length = (sortI ks).length := by rw [← e1, List.length_mergeSort]
  rw [e1, e2] at hrow
  refine ⟨v, rfl, ownsRow_base_a hrow (Nat.zero_le _), fun k hk => ?_, ?_⟩
  · have := (hrow.lt k hk).1; simp at this; omega
  · exact ((Only.refl _ _).alloc _).trans (G := fun k => w.heap.size + 1 ≤ k) (by have := Only.of_below hb; simpa using this) fun k hk => .inr (by omega)
end

section
variable {w : World} {b bs bi bm : Nat} {top : Int} {s : Stu}

theorem enter_others1 : ∀ args w, (callFunc 65 args).run Try.prog w = .ok (.enter 65 args) w := enters_of Try.func65 (by kernel_rfl) rfl

set_option maxRecDepth 100000 in
set_option maxHeartbeats 1600000 in
theorem others1_any (h : StAt w bs bi bm b top s) (bp : Nat) (hbp : w.cell? ⟨bp, 0, none⟩ = some (.pointer (some ⟨bs, 0, none⟩))) (x : Int) (hx : InI64 x) :
    Calls Try.prog 65 #[.int .i64 x, .pointer (some ⟨bp, 0, none⟩)] w fun e w' => e = .returned (.bool (s.f (Cnf.absW x) == 0)) ∧ Only (fun _ => False) w w' := by
  obtain ⟨a, ha⟩ : ∃ a, Cnf.absW x = a := ⟨_, rfl⟩
  rw [ha]
  have hai : InI64 a := by rw [← ha]; exact absW_in hx
  have hab := fun W : World => learn_abs_any (w := W) x a ha
  have HAb := Lib.hid hab
  have hC : ∀ W, Only (fun _ => False) w W → W.cell? ⟨bp, 0, none⟩ = some (.pointer (some ⟨bs, 0, none⟩)) ∧ W.cell? ⟨bs, 2, none⟩ = some (.map (some bi)) ∧ (Instr.lookup 62 (.map (some bi)) (cI a) false).run Try.prog W = .ok (cI (s.f a)) W := fun W oW => ⟨cell_keep hbp oW (fun f => f), (h.only0 oW).c2, (h.only0 oW).in_.look hai⟩
  have HC := Lib.hid hC
  have o0 : Only (fun _ => False) w w.drew := (Only.refl _ _).drew
  generalize s.f a = y at *
  clear hC hab ha hbp h
  go_enter Try.func65, Try.ntmps65
  go_wp2_with fail
  refine wp_region_Q (fun w' => Only (fun _ => False) w w') (by kernel_rfl) (by kernel_rfl) (by assumption) ?_
  refine wpQ_val (v := ?_) (by rfl) ?_ ?_
  rotate_left
  · (intro w hSw; (try dsimp only at hSw); have hcc := HC.out w hSw; obtain ⟨hc1, hc2, hc3⟩ := hcc; go_simp <;> (try with_reducible rfl))
  try simp only [Act.put, List.setIfInBounds_toArray, List.set_cons_zero, List.set_cons_succ]
  refine wpQ_val (v := ?_) (by rfl) ?_ ?_
  rotate_left
  · (intro w hSw; (try dsimp only at hSw); have hcc := HC.out w hSw; obtain ⟨hc1, hc2, hc3⟩ := hcc; go_simp <;> (try with_reducible rfl))
  try simp only [Act.put, List.setIfInBounds_toArray, List.set_cons_zero, List.set_cons_succ]
  refine wpQ_val (v := ?_) (by rfl) ?_ ?_
  rotate_left
  · (intro w hSw; (try dsimp only at hSw); have hcc := HC.out w hSw; obtain ⟨hc1, hc2, hc3⟩ := hcc; go_simp <;> (try with_reducible rfl))
  try simp only [Act.put, List.setIfInBounds_toArray, List.set_cons_zero, List.set_cons_succ]
  refine wpQ_val (v := ?_) (by rfl) ?_ ?_
  rotate_left
  · (intro w hSw; (try dsimp only at hSw); have hcc := HC.out w hSw; obtain ⟨hc1, hc2, hc3⟩ := hcc; go_simp <;> (try with_reducible rfl))
  try simp only [Act.put, List.setIfInBounds_toArray, List.set_cons_zero, List.set_cons_succ]
  refine wpQ_val (v := ?_) (by rfl) ?_ ?_
  rotate_left
  · (intro w hSw; (try dsimp only at hSw); have hcc := HC.out w hSw; obtain ⟨hc1, hc2, hc3⟩ := hcc; go_simp <;> (try with_reducible rfl))
  try simp only [Act.put, List.setIfInBounds_toArray, List.set_cons_zero, List.set_cons_succ]
  refine wpQ_call (v := cI a) (f := 48) (args := #[.int .i64 x]) (by rfl) ?_ ?_ ?_
  · (intro w; go_simp <;> (try with_reducible rfl))
  · (intro w hSw; exact (HAb.out w).mono fun _ _ ⟨he, hw⟩ => ⟨he, by rw [← hw]; exact hSw⟩)
  try simp only [Act.put, List.setIfInBounds_toArray, List.set_cons_zero, List.set_cons_succ]
  refine wpQ_val (v := ?_) (by rfl) ?_ ?_
  rotate_left
  · (intro w hSw; (try dsimp only at hSw); have hcc := HC.out w hSw; obtain ⟨hc1, hc2, hc3⟩ := hcc; go_simp <;> (try with_reducible rfl))
  try simp only [Act.put, List.setIfInBounds_toArray, List.set_cons_zero, List.set_cons_succ]
  refine wpQ_val (v := ?_) (by rfl) ?_ ?_
  rotate_left
  · (intro w hSw; (try dsimp only at hSw); have hcc := HC.out w hSw; obtain ⟨hc1, hc2, hc3⟩ := hcc; go_simp <;> (try with_reducible rfl))
  try simp only [Act.put, List.setIfInBounds_toArray, List.set_cons_zero, List.set_cons_succ]
  refine wpQ_val (v := ?_) (by rfl) ?_ ?_
  rotate_left
  · (intro w hSw; (try dsimp only at hSw); have hcc := HC.out w hSw; obtain ⟨hc1, hc2, hc3⟩ := hcc; go_simp <;> (try with_reducible rfl))
  try simp only [Act.put, List.setIfInBounds_toArray, List.set_cons_zero, List.set_cons_succ]
  refine wpQuiet_nil ?_
  intro w2 O2
  go_wp2_with fail
  go_ret
  exact ⟨rfl, O2⟩
end
end Go.Proofs.Ytjedgdamommgeaa

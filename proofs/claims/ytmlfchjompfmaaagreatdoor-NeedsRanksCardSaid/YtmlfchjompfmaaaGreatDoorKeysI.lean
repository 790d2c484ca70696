/- slices.Sorted(maps.Keys(m)) at a map of ints. -/
import Derived.Test.YtmlfchjompfmaaaGreatDoorLrn1
import Derived.Test.YtmlfchjompfmaaaGreatDoorShelf
set_option linter.unusedVariables false
namespace Go.Proofs.YtmlfchjompfmaaaGreatDoor
open Go.RowKit Go.Maps Go.Sort Go.Shelf
def sortI (l : List Int) : List Int := l.mergeSort fun x y => decide (x ≤ y)
theorem sortI_perm (l : List Int) : (sortI l).Perm l := List.mergeSort_perm l _
theorem sortI_sorted (l : List Int) : (sortI l).Pairwise (· ≤ ·) := by
 have h := List.pairwise_mergeSort (le := fun x y : Int => decide (x ≤ y)) (by intro a b c; simp; omega) (by intro a b; simp; omega) l
 exact h.imp fun h => by simpa using h
theorem sortI_of_perm {l m : List Int} (h : l.Perm m) : sortI l = sortI m :=
 List.Perm.eq_of_pairwise (le := fun x y : Int => x ≤ y) (fun a b _ _ h1 h2 => by omega) (sortI_sorted l) (sortI_sorted m) (((sortI_perm l).trans h).trans (sortI_perm m).symm)
theorem Tryz.sortsA (m : Nat) : AnyZI.SortsIn Tryz.prog Tryz.sortedA_ren Fence.wide m :=
 ⟨fun blk off cap ss W hH hblk hsz => callsIn_wide.2 (AnyM.slices_Sort_int Tryz.sortA blk off cap ss W hH hblk hsz),
 fun p cap W => callsIn_wide.2 (AnyM.slices_Sort_int_none Tryz.sortA p cap W)⟩
section
variable {w : World} {B : Nat} {ks : List Int} {f : Int → Int}
abbrev keysF (w : World) : Value := .func (.func 46) #[] #[.pointer (some ⟨w.heap.size, 0, none⟩)]
theorem keys_any (w : World) (B : Nat) : Calls Tryz.prog 28 #[.map (some B)] w fun e w' => e = .returned (keysF w) ∧ w' = w.alloc (.cells #[.map (some B)] 72) := by
 refine (callsIn_wide (n := 5)).1 ?_
 exact AnyZI.keys_in Tryz.keysA Fence.wide 5 trivial rfl (some B) w
theorem sorted_any (h : IMap w B ks f) (hl : ks.length ≤ 65536) : Calls Tryz.prog 27 #[keysF w] (w.alloc (.cells #[.map (some B)] 72)) fun e w' =>
  ∃ v, e = .returned v ∧ w'.ownsRow 0 3 1 v (sortI ks).length ((sortI ks).map cI) ∧ (∀ k, v.ownBlock = some k → w.heap.size ≤ k) ∧ Only (fun _ => False) w w' := by
 obtain ⟨D, hown, hp, hsz⟩ := h.keys
 have hbl := hown.lt
 have hseq : SeqGives Fence.wide 2 Tryz.prog 46 #[.pointer (some ⟨w.heap.size, 0, none⟩)] encZ (fun ss => ss.Perm (intKeys D)) (Maps.size D) (w.alloc (.cells #[.map (some B)] 72)) :=
  AnyZI.keys_gives (ρ := Tryz.keysA_ren) { Tryz.keysA with } Fence.wide _ trivial rfl (by omega) w.heap.size B ks.length D _ (by simp) (by simp) (by
   obtain ⟨es, clock, hb, Ft, hs, hD⟩ := hown
   exact ⟨es, clock, (Below.heap_alloc _ _ B hbl).trans hb, Ft, hs, hD⟩)
 have cS := AnyZI.sorted_in Tryz.sortedA Fence.wide 5 trivial trivial trivial trivial rfl (by omega) (Tryz.sortsA _) (enters_of Tryz.func45 (by kernel_rfl) rfl) 46 #[.pointer (some ⟨w.heap.size, 0, none⟩)] trivial (enters_of Tryz.func46 (by kernel_rfl) rfl) _ _ (by rw [hsz]; unfold maxLen; omega) (by rw [hsz]; omega) _ hseq
 refine ((callsIn_wide (n := 5)).1 cS).mono ?_
 rintro e w' ⟨v, ss, rfl, hS, hrow, -, hb⟩
 have e1 : ss.mergeSort (fun x y => decide (x ≤ y)) = sortI ks := sortI_of_perm (hS.trans hp.symm)
 have e2 : ss.length = (sortI ks).length := by rw [← e1, List.length_mergeSort]
 rw [e1, e2] at hrow
 refine ⟨v, rfl, ownsRow_base_a hrow (Nat.zero_le _), fun k hk => ?_, ?_⟩
 ·have := (hrow.lt k hk).1; simp at this; omega
 ·exact ((Only.refl _ _).alloc _).trans (G := fun k => w.heap.size + 1 ≤ k) (by have := Only.of_below hb; simpa using this) fun k hk => .inr (by omega)
end
end Go.Proofs.YtmlfchjompfmaaaGreatDoor

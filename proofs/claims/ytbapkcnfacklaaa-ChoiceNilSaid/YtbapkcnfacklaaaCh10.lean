/- Law 13's example: the walk; ChoiceNil. -/
import Derived.Test.YtbapkcnfacklaaaCh9
set_option linter.unusedVariables false
namespace Go.Proofs.Ytbapkcnfacklaaa
open Go.RowKit
section
variable {w w' : World} {B : Nat}
def req13 : ReqD := ⟨[⟨⟨bs [97], [⟨bs [], bs []⟩], []⟩, 0⟩]⟩
theorem ex13_ta : ex13.targets (bs [97]) = [0] := by decide
theorem ex13_closure : ex13.closure req13.names = [0] := by
 have h0 : ex13.Reach req13.names 0 := .root (s := bs [97]) (by simp [ReqD.names, req13]) (by rw [ex13_ta]; simp)
 unfold RecD.closure
 rw [show List.range ex13.packs.length = [0] from rfl]
 simp [h0]
theorem ints_block {b : Nat} {xs : List Int} (h : w.heap[b]? = some (.cells (xs.map cI).toArray 3)) (hx : xs.all (fun x => decide (-1000 ≤ x ∧ x ≤ 1000)) = true ∧ xs.length ≤ 1000) : Ints w (.slice (some ⟨b, 0, none⟩) xs.length xs.length) xs := by
 refine Ints.of_own ⟨by simp, .inr ⟨b, xs.length, _, rfl, Nat.zero_le _, h, Nat.le_refl _, by unfold maxLen; omega, by simp, ?_⟩⟩ fun z hz => ?_
 ·rw [Nat.mul_one]
  simp [List.take_of_length_le]
 ·have := of_decide_eq_true (List.all_eq_true.1 hx.1 z hz)
  exact ⟨by omega, by omega⟩
set_option maxRecDepth 100000 in
set_option maxHeartbeats 2000000 in
theorem fixed13_any (w : World) : Calls Try.prog 11 #[] w fun e w' => e = .returned (.bool true) ∧ Only (fun _ => False) w w' := by
 go_enter Try.func11, Try.ntmps11
 go_wp2_with fail
 generalize hW : World.alloc _ _ = W
 have hsz : W.heap.size = w.heap.size + 5 := by rw [← hW]; simp
 have b0 : W.heap[w.heap.size]? = some (.cells #[.string (bs [49]), .bool false, .string (bs [50]), .bool false] 85) := by rw [← hW]; exact alloc_block (alloc_block (alloc_block (alloc_block (alloc_at rfl) _) _) _) _
 have b1 : W.heap[w.heap.size + 1]? = some (.cells #[.string (bs [97]), .int .i64 0, .slice (some ⟨w.heap.size, 0, none⟩) 2 2, nilS, nilS, nilS, nilS, nilS] 58) := by rw [← hW]; exact alloc_block (alloc_block (alloc_block (alloc_at (by simp)) _) _) _
 have b3 : W.heap[w.heap.size + 3]? = some (.cells #[.string (bs []), .string (bs [])] 88) := by rw [← hW]; exact alloc_block (alloc_at (by simp)) _
 have b4 : W.heap[w.heap.size + 4]? = some (.cells #[.string (bs [97]), .slice (some ⟨w.heap.size + 3, 0, none⟩) 1 1, nilS, .int .i64 0] 68) := by rw [← hW]; exact alloc_at (by simp)
 have hO : Only (fun _ => False) w W := by rw [← hW]; exact (((((Only.refl _ _).alloc _).alloc _).alloc _).alloc _).alloc _
 have hrec : RecC W.heap.size W [.slice (some ⟨w.heap.size + 1, 0, none⟩) 1 1, nilS] ex13 := by
  have hrel : RowT 2 RelC W.heap.size W (.slice (some ⟨w.heap.size, 0, none⟩) 2 2) [⟨bs [49], false⟩, ⟨bs [50], false⟩] :=
   RowT.lit b0 (by omega) (Nat.le_refl _) rfl (by decide) (by decide) fun i hi => by
    match i, hi with
    | 0, _ => exact ⟨[.string (bs [49]), .bool false], rfl, rfl, rfl, ok10 _ (by decide)⟩
    | 1, _ => exact ⟨[.string (bs [50]), .bool false], rfl, rfl, rfl, ok10 _ (by decide)⟩
  refine ⟨_, _, rfl, RowT.lit b1 (by omega) (Nat.le_refl _) rfl (by decide) (by decide) fun i hi => ?_, RowT.nilRow⟩
  match i, hi with
  | 0, _ => exact ⟨[.string (bs [97]), .int .i64 0, .slice (some ⟨w.heap.size, 0, none⟩) 2 2, nilS, nilS, nilS, nilS, nilS], rfl, rfl, _, _, _, _, _, _, rfl, ok10 _ (by decide), z64, hrel, RowT.nilRow, RowT.nilRow, RowT.nilRow, RowT.nilRow, RowT.nilRow⟩
 have hreq : ReqC W.heap.size W [.slice (some ⟨w.heap.size + 4, 0, none⟩) 1 1] req13 := by
  have hsp : RowT 2 SpanC W.heap.size W (.slice (some ⟨w.heap.size + 3, 0, none⟩) 1 1) [⟨bs [], bs []⟩] :=
   RowT.lit b3 (by omega) (Nat.le_refl _) rfl (by decide) (by decide) fun i hi => by
    match i, hi with
    | 0, _ => exact ⟨[.string (bs []), .string (bs [])], rfl, rfl, rfl, ok10 _ (by decide), ok10 _ (by decide)⟩
  refine ⟨_, rfl, RowT.lit b4 (by omega) (Nat.le_refl _) rfl (by decide) (by decide) fun i hi => ?_⟩
  match i, hi with
  | 0, _ => exact ⟨[.string (bs [97]), .slice (some ⟨w.heap.size + 3, 0, none⟩) 1 1, nilS, .int .i64 0], rfl, rfl, [.string (bs [97]), .slice (some ⟨w.heap.size + 3, 0, none⟩) 1 1, nilS], rfl, ⟨_, _, rfl, ok10 _ (by decide), hsp, RowT.nilRow⟩, z64⟩
 clear hW b0 b1 b3 b4
 have hs : SmallRec ex13 := ⟨by decide, by decide, fun p hp => by
  simp only [ex13, List.mem_cons, List.not_mem_nil, or_false] at hp
  rcases hp with rfl
  exact ⟨by decide, by decide, by decide, by decide, by decide⟩⟩
 refine (New_gr hrec hreq (Nat.le_refl _) hs (by decide) 100 ⟨by decide, by decide⟩ 100 (by decide)).mono ?_
 rintro e w1 ⟨c, bt, bb, gt, gb, G, Bs, rfl, HG, hx, -, hl, -, hBs, -, hWB, -, hBw, O1⟩
 rw [ex13_closure] at hl
 have hmid : MidRec ex13 := ⟨by decide, by decide, by decide, by decide⟩
 have HC := Lib.hid (Choices_gr HG hx hl (by decide) hmid hBs hBw (by decide))
 have HO1 := Lib.hid (hO.same O1)
 have HFr : Hid (∀ k, k < w.heap.size → ¬ (Mine gt k ∨ Mine gb k)) := fun k hk hm => by have := hBs k hm; omega
 clear hrec hreq hx hl hBs hBw O1 hO HG hs hmid hWB
 go_wp2_with fail
 refine HC.out.mono ?_
 rintro e w2 ⟨rfl, gt2, gb2, HG2, -, -, O2⟩
 have HO2 : Hid (Only (fun _ => False) w w2) := HO1.out.trans O2 fun k hk => .inr (by
  rcases Nat.lt_or_ge k w.heap.size with h | h
  ·exact absurd hk (HFr.out k h)
  ·exact h)
 have HBu := Lib.hid (Builder_gr HG2)
 obtain ⟨Vb, hVb⟩ := HG2.bld
 have HCl := Lib.hid (Clauses_any hVb)
 rw [ex13_cls] at HCl
 clear HG2 hVb O2
 go_wp2_with fail
 refine HBu.out.mono ?_
 rintro e w3 ⟨rfl, rfl⟩
 go_wp2_with fail
 refine HCl.out.mono ?_
 rintro e w4 ⟨v, us, rfl, hOw, O4⟩
 have HI := Lib.hid hOw.intsS
 have HO4 := Lib.hid (HO2.out.same O4)
 obtain ⟨av, cv, rfl, -, -⟩ := hOw.intsS.shape
 clear hOw O4 HCl HBu HC
 go_wp2_with fail
 generalize hW2 : World.alloc _ _ = W2
 have d0 : W2.heap[w4.heap.size]? = some (.cells #[cI (-1), cI 2, cI 3] 3) := by rw [← hW2]; exact alloc_block (alloc_block (alloc_block (alloc_block (alloc_at rfl) _) _) _) _
 have d1 : W2.heap[w4.heap.size + 1]? = some (.cells #[cI (-2), cI (-3)] 3) := by rw [← hW2]; exact alloc_block (alloc_block (alloc_block (alloc_at (by simp)) _) _) _
 have d2 : W2.heap[w4.heap.size + 1 + 1]? = some (.cells #[cI 1, cI (-2)] 3) := by rw [← hW2]; exact alloc_block (alloc_block (alloc_at (by simp)) _) _
 have d3 : W2.heap[w4.heap.size + 1 + 1 + 1]? = some (.cells #[cI 1, cI (-3)] 3) := by rw [← hW2]; exact alloc_block (alloc_at (by simp)) _
 have d4 : W2.heap[w4.heap.size + 1 + 1 + 1 + 1]? = some (.cells #[.slice (some ⟨w4.heap.size, 0, none⟩) 3 3, .slice (some ⟨w4.heap.size + 1, 0, none⟩) 2 2, .slice (some ⟨w4.heap.size + 1 + 1, 0, none⟩) 2 2, .slice (some ⟨w4.heap.size + 1 + 1 + 1, 0, none⟩) 2 2] 32) := by rw [← hW2]; exact alloc_at (by simp)
 have oW : Only (fun _ => False) w4 W2 := by rw [← hW2]; exact (((((Only.refl _ _).alloc _).alloc _).alloc _).alloc _).alloc _
 have hlit : IntsS W2 (.slice (some ⟨w4.heap.size + 1 + 1 + 1 + 1, 0, none⟩) 4 4) [[-1, 2, 3], [-2, -3], [1, -2], [1, -3]] := by
  refine ⟨[.slice (some ⟨w4.heap.size, 0, none⟩) 3 3, .slice (some ⟨w4.heap.size + 1, 0, none⟩) 2 2, .slice (some ⟨w4.heap.size + 1 + 1, 0, none⟩) 2 2, .slice (some ⟨w4.heap.size + 1 + 1 + 1, 0, none⟩) 2 2], Cells.of_own (t := 32) ⟨rfl, .inr ⟨_, 4, _, rfl, Nat.zero_le _, d4, Nat.le_refl _, by unfold maxLen; omega, rfl, rfl⟩⟩, rfl, fun i hi => ?_⟩
  match i, hi with
  | 0, _ => exact ints_block (xs := [-1, 2, 3]) d0 (by decide)
  | 1, _ => exact ints_block (xs := [-2, -3]) d1 (by decide)
  | 2, _ => exact ints_block (xs := [1, -2]) d2 (by decide)
  | 3, _ => exact ints_block (xs := [1, -3]) d3 (by decide)
 clear hW2 d0 d1 d2 d3 d4
 refine (SameAll_any (HI.out.only0 oW) hlit true (by decide)).mono ?_
 rintro e w5 ⟨rfl, O5⟩
 have HO5 := Lib.hid ((HO4.out.same oW).same O5)
 clear oW O5 hlit
 go_wp2_with fail
 go_ret
 exact ⟨rfl, HO5.out⟩
end
end Go.Proofs.Ytbapkcnfacklaaa

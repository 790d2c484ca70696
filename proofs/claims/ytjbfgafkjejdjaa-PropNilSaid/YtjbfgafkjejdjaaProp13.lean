/- The walk of prop.New. (Printed by gen_prop13.py.) -/
import Derived.Test.YtjbfgafkjejdjaaProp4
import Derived.Test.YtjbfgafkjejdjaaRegion4
import Derived.Test.YtjbfgafkjejdjaaPropP6
namespace Go.Proofs.Ytjbfgafkjejdjaa
open Go.RowKit
open Tr

/-- 'make([]T, n)', T of several cells, as one step of a region that draws its order. -/
theorem stepMZ {P : Program} {w : World} {ops : Array Oper} {o : Oper} {a : Act} {K : Act → World → Prop} {Q : Exit → Act → World → Prop} {E : Prop} {t e : TypeId} {bytes size : Nat} {z : Value}
    (hu : P.underlying t = some (.slice e)) (hi : (P.info? e).map (fun i => (i.zero, i.size, i.bytes)) = some (some z, size, bytes))
    (hg : o.guard = none) (l c : Operand) (hop : o.op = Op.makeSlice t l c) (n : Nat) {kl kc : IntKind} {L C : Int} (hl : a.eval l = .int kl L) (hc : a.eval c = .int kc C) (hL : L = (n : Int)) (hC : C = (n : Int))
    (hn : n ≤ 1099511627776) (hb : bytes ≤ 64)
    (hK : ∀ w', w'.ownsRow 0 e size (.slice (some ⟨w.heap.size, 0, none⟩) n n) n (madeCells z.cells (n * size)).toList → Only (fun _ => False) w w' → w.heap.size < w'.heap.size → K (a.put o.dst (.slice (some ⟨w.heap.size, 0, none⟩) n n)) w') :
    if Region.wanted o (yielded ops a.tmps) = true then Oper.wp P o a w K Q else E := by
  rw [if_pos (by simp [Region.wanted, hg])]
  obtain ⟨i, h1, h2, h3, h4⟩ := info_parts hi
  have hbn : i.bytes * n ≤ 281474976710656 := by
    rw [h4]
    have : bytes * n ≤ 64 * 1099511627776 := Nat.mul_le_mul hb hn
    omega
  obtain ⟨w', hrun, r1, r2⟩ := run_make_full (P := P) w 0 t e i z size hu h1 h2 h3 kl kc n hbn (by unfold maxLen; omega) (Nat.zero_le _)
  subst hL
  subst hC
  unfold Oper.wp
  simp [execOp, hop, hl, hc, hrun, Result.andThen]
  exact hK w' r1 ((Only.refl _ w).grown r2 fun k hk => by cases hk) (own_lt r1 rfl)

theorem made_atoms (n : Nat) : (madeCells #[Value.int .i64 0, Value.int .i64 0, Value.int .i64 0] (n * 3)).toList = atomCells n [] := by
  refine flat_ext (m := 3) (f := fun i => cell3 (atomOf [] (i + 1))) (by decide) (fun _ => rfl) (by simp [madeCells]) (fun i j hi hj => ?_)
  have hb : i * 3 + j < n * 3 := by omega
  simp only [madeCells, Array.toList_map, Array.toList_range, List.getElem?_map, List.getElem?_range hb, Option.map_some]
  have e : (i * 3 + j) % 3 = j := by omega
  match j, hj with
  | 0, _ => simp [cell3, atomOf, e]
  | 1, _ => simp [cell3, atomOf, e]
  | 2, _ => simp [cell3, atomOf, e]

theorem RowZ_nil (w : World) (g : Tag) (t : Nat × Nat) (e : TypeId) (size : Nat) : RowZ w g t e size nilS 0 [] :=
  ⟨World.ownsRow_nil _ _ _ _, fun k hk => by simp [Value.ownBlock] at hk⟩

/-- what New leaves -/
def NewTr (w : World) (n : Nat) (e : Ending) (w' : World) : Prop := ∃ b g V, e = .returned (.pointer (some ⟨b, 0, none⟩)) ∧ TrAt w' g b V (Tr.new n) ∧ (∀ k, Mine g k → w.heap.size ≤ k) ∧ Only (fun _ => False) w w'

def newTrTag (ba bw b : Nat) : Tag := fun k => if k = b then (31, 0) else if k = ba then (32, 0) else if k = bw then (36, 0) else (0, 0)

theorem NewTr.of {w w2 : World} {n ba bw : Nat} (ra : w2.ownsRow 0 96 3 (.slice (some ⟨ba, 0, none⟩) n n) n (atomCells n [])) (rw_ : w2.ownsRow 0 22 1 (.slice (some ⟨bw, 0, none⟩) (2 * n) (2 * n)) (2 * n) (List.replicate (2 * n) nilS)) (hne : ba ≠ bw) (ha : w.heap.size ≤ ba) (hb : w.heap.size ≤ bw) (ho : Only (fun _ => False) w w2) :
    NewTr w n (.returned (.pointer (some ⟨w2.heap.size, 0, none⟩))) (w2.alloc (.cells #[.slice (some ⟨ba, 0, none⟩) n n, nilS, nilS, .slice (some ⟨bw, 0, none⟩) (2 * n) (2 * n), nilS, nilS, .int .i64 0, nilS, nilS] 91)) := by
  have la : ba < w2.heap.size := own_lt ra rfl
  have lb : bw < w2.heap.size := own_lt rw_ rfl
  have oA : Only (fun _ => False) w2 (w2.alloc (.cells #[.slice (some ⟨ba, 0, none⟩) n n, nilS, nilS, .slice (some ⟨bw, 0, none⟩) (2 * n) (2 * n), nilS, nilS, .int .i64 0, nilS, nilS] 91)) := (Only.refl _ _).alloc _
  have t1 : newTrTag ba bw w2.heap.size w2.heap.size = (31, 0) := by unfold newTrTag; rw [if_pos rfl]
  have t2 : newTrTag ba bw w2.heap.size ba = (32, 0) := by unfold newTrTag; rw [if_neg (by omega), if_pos rfl]
  have t3 : newTrTag ba bw w2.heap.size bw = (36, 0) := by unfold newTrTag; rw [if_neg (by omega), if_neg (fun h => hne h.symm), if_pos rfl]
  refine ⟨w2.heap.size, newTrTag ba bw w2.heap.size, ⟨.slice (some ⟨ba, 0, none⟩) n n, nilS, nilS, .slice (some ⟨bw, 0, none⟩) (2 * n) (2 * n), nilS, nilS, nilS, nilS, [], List.replicate (2 * n) nilS⟩, rfl, ?_, fun k hk => ?_, ho.same oA⟩
  · refine ⟨heap_alloc_new w2 _, t1, ⟨own_only ra oA (fun _ _ f => f), fun k hk => by simp [Value.ownBlock] at hk; rw [← hk]; exact t2⟩, Row.nil _ _ _ _, rfl, fun i hi => by simp [Tr.new] at hi, Row.nil _ _ _ _, ⟨by simpa using own_only rw_ oA (fun _ _ f => f), fun k hk => by simp [Value.ownBlock] at hk; rw [← hk]; exact t3⟩, by simp [Tr.new], fun p hp => ?_, Row.nil _ _ _ _, RowZ_nil _ _ _ _ _, RowO.nil _ _ _ _, Row.nil _ _ _ _, fun k hk => ?_⟩
    · rw [show (Tr.new n).watch.getD p [] = (Tr.new n).wt p from rfl, new_wt]
      have e : (List.replicate (2 * n) nilS).getD p nilS = nilS := by
        rw [List.getD_eq_getElem?_getD, List.getElem?_replicate]; split <;> rfl
      simp only [e]
      exact Row.nil _ _ _ _
    · simp at hk
      unfold newTrTag
      rw [if_neg (by omega), if_neg (by omega), if_neg (by omega)]
  · unfold Mine newTrTag at hk
    have := ho.size
    split at hk
    · omega
    · split at hk
      · omega
      · split at hk
        · omega
        · simp at hk

set_option maxRecDepth 100000 in
set_option maxHeartbeats 1600000 in
theorem prop_New_any (w : World) (x : Int) (hx : InI64 x) (n : Nat) (hn : min (max x 0) 65536 = (n : Int)) : Calls Try.prog 33 #[.int .i64 x] w (NewTr w n) := by
  have hnb : n ≤ 65536 := by omega
  have ew : IntKind.i64.wrap (2 * (n : Int)) = ((2 * n : Nat) : Int) := by rw [IntWalk.i64_in _ (by omega)]; omega
  have hfin : ∀ w2 ba bw, w2.ownsRow 0 96 3 (.slice (some ⟨ba, 0, none⟩) n n) n (atomCells n []) → w2.ownsRow 0 22 1 (.slice (some ⟨bw, 0, none⟩) (2 * n) (2 * n)) (2 * n) (List.replicate (2 * n) nilS) → ba ≠ bw → w.heap.size ≤ ba → w.heap.size ≤ bw → Only (fun _ => False) w w2 → _ := fun w2 ba bw h1 h2 h3 h4 h5 h6 => NewTr.of (n := n) h1 h2 h3 h4 h5 h6
  have HFin := Lib.hid hfin
  clear hfin hx
  go_enter Try.func33, Try.ntmps33
  go_wp2_with fail
  refine wp_region_G (n := 8) (E := fun _ => false) (S := fun w' => Only (fun _ => False) w w') (by kernel_rfl) rfl ((Only.refl _ _).drew) (fun hHeld => ?_)
  refine wpAnyG_takeW (i := 0) (v := ?_) rfl (by kernel_rfl) (by kernel_rfl) (by kernel_rfl) rfl (fun _ _ _ h => h) (Or.inr (by assumption)) (by rfl) ?_ ?_
  rotate_left
  · (intro w; go_simp <;> (try with_reducible rfl))
  try simp only [Act.put, List.getElem_toArray, List.getElem_cons_succ, List.getElem_cons_zero, List.setIfInBounds_toArray, List.set_cons_zero, List.set_cons_succ]
  refine wpAnyG_takeW (i := 2) (v := ?_) rfl (by kernel_rfl) (by kernel_rfl) (by kernel_rfl) rfl (fun _ _ _ h => h) (Or.inr (by assumption)) (by rfl) ?_ ?_
  rotate_left
  · (intro w; go_simp <;> (try with_reducible rfl))
  try simp only [Act.put, List.getElem_toArray, List.getElem_cons_succ, List.getElem_cons_zero, List.setIfInBounds_toArray, List.set_cons_zero, List.set_cons_succ]
  refine wpAnyG_takeW (i := 3) (v := ?_) rfl (by kernel_rfl) (by kernel_rfl) (by kernel_rfl) rfl (fun _ _ _ h => h) (Or.inr (by assumption)) (by rfl) ?_ ?_
  rotate_left
  · (intro w; go_simp <;> (try with_reducible rfl))
  try simp only [Act.put, List.getElem_toArray, List.getElem_cons_succ, List.getElem_cons_zero, List.setIfInBounds_toArray, List.set_cons_zero, List.set_cons_succ]
  refine wpAnyG_ready (rs := [1, 4]) (by kernel_rfl) (by simp) ?_
  refine AllReadyG.cons (i := 1) rfl (fun K hK => ?_) ?_
  · (refine stepMZ (bytes := 24) (size := 3) (z := .agg #[.int .i64 0, .int .i64 0, .int .i64 0]) Try.underlying88 (by kernel_rfl) rfl (.tmp 6) (.tmp 6) rfl n rfl rfl rfl rfl (by omega) (by decide) ?_; intro wa ra oa la; rw [show (Value.agg #[.int .i64 0, .int .i64 0, .int .i64 0]).cells = #[Value.int .i64 0, Value.int .i64 0, Value.int .i64 0] from rfl, made_atoms] at ra)
    refine hK.out _ _ ?_ (fun hHeld => ?_)
    · (try dsimp only) <;> (exact hHeld.same oa)
    clear hK K
    try simp only [Act.put, List.getElem_toArray, List.getElem_cons_succ, List.getElem_cons_zero, List.setIfInBounds_toArray, List.set_cons_zero, List.set_cons_succ]
    refine wpAnyG_ready (rs := [4]) (by kernel_rfl) (by simp) ?_
    refine AllReadyG.cons (i := 4) rfl (fun K hK => ?_) ?_
    · (refine stepM (bytes := 24) (z := nilS) Try.underlying35 (by kernel_rfl) rfl rfl (.tmp 9) (.tmp 9) rfl (2 * n) rfl rfl (by first | rfl | omega) (by first | rfl | omega) (by omega) (by decide) ?_; intro ww rw_ ow lw)
      refine hK.out _ _ ?_ (fun hHeld => ?_)
      · (try dsimp only) <;> (exact hHeld.same ow)
      clear hK K
      try simp only [Act.put, List.getElem_toArray, List.getElem_cons_succ, List.getElem_cons_zero, List.setIfInBounds_toArray, List.set_cons_zero, List.set_cons_succ]
      refine wpAnyG_takeW (i := 5) (v := ?_) rfl (by kernel_rfl) (by kernel_rfl) (by kernel_rfl) rfl (fun _ _ _ h => h) (Or.inr (by assumption)) (by rfl) ?_ ?_
      rotate_left
      · (intro w; go_simp <;> (try with_reducible rfl))
      try simp only [Act.put, List.getElem_toArray, List.getElem_cons_succ, List.getElem_cons_zero, List.setIfInBounds_toArray, List.set_cons_zero, List.set_cons_succ]
      refine wpAnyG_ready (rs := [6]) (by kernel_rfl) (by simp) ?_
      refine AllReadyG.cons (i := 6) rfl (fun K hK => ?_) ?_
      · go_simp
        refine hK.out _ _ ?_ (fun hHeld => ?_)
        · (try dsimp only) <;> (exact hHeld.alloc _)
        clear hK K
        try simp only [Act.put, List.getElem_toArray, List.getElem_cons_succ, List.getElem_cons_zero, List.setIfInBounds_toArray, List.set_cons_zero, List.set_cons_succ]
        refine wpAnyG_takeW (i := 7) (v := ?_) rfl (by kernel_rfl) (by kernel_rfl) (by kernel_rfl) rfl (fun _ _ _ h => h) (Or.inr (by assumption)) (by rfl) ?_ ?_
        rotate_left
        · (intro w; go_simp <;> (try with_reducible rfl))
        try simp only [Act.put, List.getElem_toArray, List.getElem_cons_succ, List.getElem_cons_zero, List.setIfInBounds_toArray, List.set_cons_zero, List.set_cons_succ]
        refine wpAnyG_done (by kernel_rfl) ?_ _
        have hnew := HFin.out ww w.heap.size wa.heap.size (own_only ra ow (fun _ _ f => f)) rw_ (Nat.ne_of_lt la) (Nat.le_refl _) (Nat.le_of_lt la) ((((Only.refl _ _).drew).same oa).same ow)
        have HNew := Lib.hid hnew
        clear hnew HFin ra rw_ oa ow la lw hHeld
        go_wp2_with fail
        go_ret
        exact HNew.out
      exact AllReadyG.nil
    exact AllReadyG.nil
  refine AllReadyG.cons (i := 4) rfl (fun K hK => ?_) ?_
  · (refine stepM (bytes := 24) (z := nilS) Try.underlying35 (by kernel_rfl) rfl rfl (.tmp 9) (.tmp 9) rfl (2 * n) rfl rfl (by first | rfl | omega) (by first | rfl | omega) (by omega) (by decide) ?_; intro ww rw_ ow lw)
    refine hK.out _ _ ?_ (fun hHeld => ?_)
    · (try dsimp only) <;> (exact hHeld.same ow)
    clear hK K
    try simp only [Act.put, List.getElem_toArray, List.getElem_cons_succ, List.getElem_cons_zero, List.setIfInBounds_toArray, List.set_cons_zero, List.set_cons_succ]
    refine wpAnyG_ready (rs := [1]) (by kernel_rfl) (by simp) ?_
    refine AllReadyG.cons (i := 1) rfl (fun K hK => ?_) ?_
    · (refine stepMZ (bytes := 24) (size := 3) (z := .agg #[.int .i64 0, .int .i64 0, .int .i64 0]) Try.underlying88 (by kernel_rfl) rfl (.tmp 6) (.tmp 6) rfl n rfl rfl rfl rfl (by omega) (by decide) ?_; intro wa ra oa la; rw [show (Value.agg #[.int .i64 0, .int .i64 0, .int .i64 0]).cells = #[Value.int .i64 0, Value.int .i64 0, Value.int .i64 0] from rfl, made_atoms] at ra)
      refine hK.out _ _ ?_ (fun hHeld => ?_)
      · (try dsimp only) <;> (exact hHeld.same oa)
      clear hK K
      try simp only [Act.put, List.getElem_toArray, List.getElem_cons_succ, List.getElem_cons_zero, List.setIfInBounds_toArray, List.set_cons_zero, List.set_cons_succ]
      refine wpAnyG_takeW (i := 5) (v := ?_) rfl (by kernel_rfl) (by kernel_rfl) (by kernel_rfl) rfl (fun _ _ _ h => h) (Or.inr (by assumption)) (by rfl) ?_ ?_
      rotate_left
      · (intro w; go_simp <;> (try with_reducible rfl))
      try simp only [Act.put, List.getElem_toArray, List.getElem_cons_succ, List.getElem_cons_zero, List.setIfInBounds_toArray, List.set_cons_zero, List.set_cons_succ]
      refine wpAnyG_ready (rs := [6]) (by kernel_rfl) (by simp) ?_
      refine AllReadyG.cons (i := 6) rfl (fun K hK => ?_) ?_
      · go_simp
        refine hK.out _ _ ?_ (fun hHeld => ?_)
        · (try dsimp only) <;> (exact hHeld.alloc _)
        clear hK K
        try simp only [Act.put, List.getElem_toArray, List.getElem_cons_succ, List.getElem_cons_zero, List.setIfInBounds_toArray, List.set_cons_zero, List.set_cons_succ]
        refine wpAnyG_takeW (i := 7) (v := ?_) rfl (by kernel_rfl) (by kernel_rfl) (by kernel_rfl) rfl (fun _ _ _ h => h) (Or.inr (by assumption)) (by rfl) ?_ ?_
        rotate_left
        · (intro w; go_simp <;> (try with_reducible rfl))
        try simp only [Act.put, List.getElem_toArray, List.getElem_cons_succ, List.getElem_cons_zero, List.setIfInBounds_toArray, List.set_cons_zero, List.set_cons_succ]
        refine wpAnyG_done (by kernel_rfl) ?_ _
        have hnew := HFin.out wa ww.heap.size w.heap.size ra (own_only rw_ oa (fun _ _ f => f)) (Nat.ne_of_gt lw) (Nat.le_of_lt lw) (Nat.le_refl _) ((((Only.refl _ _).drew).same ow).same oa)
        have HNew := Lib.hid hnew
        clear hnew HFin ra rw_ oa ow la lw hHeld
        go_wp2_with fail
        go_ret
        exact HNew.out
      exact AllReadyG.nil
    exact AllReadyG.nil
  exact AllReadyG.nil
end Go.Proofs.Ytjbfgafkjejdjaa

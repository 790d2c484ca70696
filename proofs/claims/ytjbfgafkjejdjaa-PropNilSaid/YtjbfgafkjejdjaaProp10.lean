/- The walk of (*prop.Trail).Decide. (Printed by gen_prop10.py.) -/
import Derived.Test.YtjbfgafkjejdjaaProp4
import Derived.Test.YtjbfgafkjejdjaaRegion4
namespace Go.Proofs.Ytjbfgafkjejdjaa
open Go.RowKit
open Tr

section
variable {w : World} {g : Tag} {b : Nat} {V : TrV} {T : Trail}

theorem prop_Decide_nil (x : Int) : Calls Try.prog 36 #[.pointer none, .int .i64 x] w fun e w' => e = .returned (.bool false) ∧ w = w' := by
  have hI := prop_is_nil (w := w) x
  have HI := Lib.hid hI
  clear hI
  go_enter Try.func36, Try.ntmps36
  go_wp2_with fail
  refine HI.out.mono ?_
  rintro e w' ⟨rfl, rfl⟩
  go_wp2_with fail
  go_ret
  exact ⟨rfl, rfl⟩

theorem prop_Decide_no (H : TrAt w g b V T) (o : Ok T) (x : Int) (hx : InI64 x) (hno : T.is x = false ∨ T.val x ≠ 0) :
    Calls Try.prog 36 #[.pointer (some ⟨b, 0, none⟩), .int .i64 x] w fun e w' => e = .returned (.bool false) ∧ w = w' := by
  cases his : T.is x
  · have hI := prop_is_any H o.n x hx false his
    have HI := Lib.hid hI
    clear hI H o hno
    go_enter Try.func36, Try.ntmps36
    go_wp2_with fail
    refine HI.out.mono ?_
    rintro e w' ⟨rfl, rfl⟩
    go_wp2_with fail
    go_ret
    exact ⟨rfl, rfl⟩
  · have hI := prop_is_any H o.n x hx true his
    have HI := Lib.hid hI
    obtain ⟨v, hv⟩ : ∃ v, T.val x = v := ⟨_, rfl⟩
    have hV := prop_Value_any H o x hx v hv
    have HV := Lib.hid hV
    have hv0 : v ≠ 0 := by
      rcases hno with h | h
      · rw [his] at h; cases h
      · rw [← hv]; exact h
    have dv : (v != 0) = true := by simpa using hv0
    clear hI hV H o hno hv0
    go_enter Try.func36, Try.ntmps36
    go_wp2_with fail
    refine HI.out.mono ?_
    rintro e w' ⟨rfl, rfl⟩
    go_wp2_with fail
    refine HV.out.mono ?_
    rintro e w' ⟨rfl, rfl⟩
    go_wp2_with fail
    go_ret
    exact ⟨rfl, rfl⟩

set_option maxRecDepth 100000 in
set_option maxHeartbeats 3200000 in
theorem prop_Decide_yes (H : TrAt w g b V T) (o : Ok T) (x : Int) (hx : x ≠ 0 ∧ x.natAbs ≤ T.n) (hv : T.val x = 0) :
    Calls Try.prog 36 #[.pointer (some ⟨b, 0, none⟩), .int .i64 x] w fun e w' => e = .returned (.bool true) ∧ TrTo w g b (T.dec x) w' := by
  have hn := o.n
  have hb : InI64 x := by unfold InI64; omega
  have hI := prop_is_any H o.n x hb true (decide_eq_true hx)
  have hV := prop_Value_any H o x hb 0 hv
  have HI := Lib.hid hI
  have HV := Lib.hid hV
  have q4 := H.f4
  have q5 := H.f5
  have q6 := H.f6
  have f5 := H.free 5
  obtain ⟨al, cl, hvl, -, -⟩ := H.l.shape
  obtain ⟨aL, cL, hvL, -, -⟩ := own_slice H.L.own
  have hll : (T.lits.map cI).length = T.ents.length := by simp [lits_len]
  rw [hll] at hvl
  rw [hvl] at q4
  rw [hvL] at q5
  have hel := o.len
  have hrL := H.L
  rw [hvL] at hrL
  have hlb : T.levels.length ≤ 65536 := by
    have h1 : (T.levels.map (·.1)).Nodup := o.lev.imp fun h => by omega
    have := Up.nodup_le T.ents.length ((T.levels.map (·.1)).map (· + 1)) (by
      unfold List.Nodup
      rw [List.pairwise_map]
      exact h1.imp fun h e => h (by omega)) (fun x hx => by
      obtain ⟨y, hy, rfl⟩ := List.mem_map.1 hx
      obtain ⟨z, hz, rfl⟩ := List.mem_map.1 hy
      have := o.lin z hz
      omega)
    simp at this
    omega
  have hS5 : ∀ w', Only (fun q => g q = (39, 0)) w w' → w'.cell? ⟨b, 5, none⟩ = some (.slice aL T.levels.length cL) ∧ w'.cell? ⟨b, 4, none⟩ = some (.slice al T.ents.length cl) ∧ w'.cell? ⟨b, 6, none⟩ = some (cN T.next) ∧ w'.frozen? ⟨b, 5, none⟩ = false := fun w' h =>
    ⟨cell_keep q5 h (by rw [H.tb]; simp), cell_keep q4 h (by rw [H.tb]; simp), cell_keep q6 h (by rw [H.tb]; simp), free_keep q5 f5 h (by rw [H.tb]; simp)⟩
  have hfin : ∀ wA w5 v' s, Only (fun q => g q = (39, 0)) wA w5 → wA.heap.size = s → RowZ w5 (Tag.put g s w5.heap.size (39, 0)) (39, 0) 93 2 v' (T.levels.length + 1) (levCells T.levels ++ [cN T.ents.length, cN T.next]) → Only (fun _ => False) w wA →
      ∃ g5, TrAt (w5.setCell ⟨b, 5, none⟩ v') g5 b { V with vL := v' } { T with levels := T.levels ++ [(T.ents.length, T.next)] } ∧ Agree w g g5 ∧ Only (Mine g) w (w5.setCell ⟨b, 5, none⟩ v') := by
    intro wA w5 v' s o5 hs r5 oA
    subst hs
    have ag : Agree w g (Tag.put g wA.heap.size w5.heap.size (39, 0)) := Agree.put g _ oA.size
    have o25 : Only (fun q => g q = (39, 0)) w w5 := (oA.mono fun _ f => f.elim).same o5
    refine ⟨_, H.setV (ls := T.levels ++ [(T.ents.length, T.next)]) ag (Fresh.put (w := wA) (39, 0) (H.fresh.more oA.size) o5.size) o25 (by rw [levCells_app, List.length_append]; exact r5), ag, (o25.mono fun q hq => by unfold Mine; rw [hq]; simp).setCell (.inl (by unfold Mine; rw [H.tb]; simp)) _⟩
  have hg := o.good
  have hvv := hv
  have HS5 := Lib.hid hS5
  have HFin := Lib.hid hfin
  have HRL := Lib.hid hrL
  have HG := Lib.hid hg
  have HVv := Lib.hid hvv
  have HX := Lib.hid hx
  have hS0 := hS5 w.drew ((Only.refl _ _).drew)
  clear hI hV hS5 hfin hrL H o hv hvl hvL hll f5 hg hvv
  go_enter Try.func36, Try.ntmps36
  go_wp2_with fail
  refine HI.out.mono ?_
  rintro e w1 ⟨rfl, rfl⟩
  go_wp2_with fail
  refine HV.out.mono ?_
  rintro e w1 ⟨rfl, rfl⟩
  go_wp2_with fail
  refine wp_region_G (n := 20) (E := fun i => i == 19) (S := fun w' => w'.cell? ⟨b, 5, none⟩ = some (.slice aL T.levels.length cL) ∧ w'.cell? ⟨b, 4, none⟩ = some (.slice al T.ents.length cl) ∧ w'.cell? ⟨b, 6, none⟩ = some (cN T.next) ∧ w'.frozen? ⟨b, 5, none⟩ = false) (by kernel_rfl) rfl hS0 (fun hHeld => ?_)
  refine wpAnyG_takeW (i := 0) (v := ?_) rfl (by kernel_rfl) (by kernel_rfl) (by kernel_rfl) rfl (fun _ _ _ h => h) (Or.inr (by assumption)) (by rfl) ?_ ?_
  rotate_left
  · (intro w; go_simp <;> (try with_reducible rfl))
  try simp only [Act.put, List.getElem_toArray, List.getElem_cons_succ, List.getElem_cons_zero, List.setIfInBounds_toArray, List.set_cons_zero, List.set_cons_succ]
  refine wpAnyG_takeW (i := 1) (v := ?_) rfl (by kernel_rfl) (by kernel_rfl) (by kernel_rfl) rfl (fun _ _ _ h => h) (Or.inr (by assumption)) (by rfl) ?_ ?_
  rotate_left
  · (intro w; go_simp <;> (try with_reducible rfl))
  try simp only [Act.put, List.getElem_toArray, List.getElem_cons_succ, List.getElem_cons_zero, List.setIfInBounds_toArray, List.set_cons_zero, List.set_cons_succ]
  refine wpAnyG_takeW (i := 2) (v := ?_) rfl (by kernel_rfl) (by kernel_rfl) (by kernel_rfl) rfl (fun _ _ _ h => h) (Or.inr (by assumption)) (by rfl) ?_ ?_
  rotate_left
  · (intro w; go_simp <;> (try with_reducible rfl))
  try simp only [Act.put, List.getElem_toArray, List.getElem_cons_succ, List.getElem_cons_zero, List.setIfInBounds_toArray, List.set_cons_zero, List.set_cons_succ]
  refine wpAnyG_takeW (i := 3) (v := ?_) rfl (by kernel_rfl) (by kernel_rfl) (by kernel_rfl) rfl (fun _ _ _ h => h) (Or.inr (by assumption)) (by rfl) ?_ ?_
  rotate_left
  · (intro w; go_simp <;> (try with_reducible rfl))
  try simp only [Act.put, List.getElem_toArray, List.getElem_cons_succ, List.getElem_cons_zero, List.setIfInBounds_toArray, List.set_cons_zero, List.set_cons_succ]
  refine wpAnyG_take (i := 4) (v := ?_) rfl (by kernel_rfl) (by kernel_rfl) (by kernel_rfl) rfl (by kernel_rfl) (by kernel_rfl) (fun _ _ _ h => h) (by assumption) (by rfl) ?_ ?_
  rotate_left
  · (intro w hSw; (try dsimp only at hSw); go_simp <;> (try with_reducible rfl))
  try simp only [Act.put, List.getElem_toArray, List.getElem_cons_succ, List.getElem_cons_zero, List.setIfInBounds_toArray, List.set_cons_zero, List.set_cons_succ]
  refine wpAnyG_takeW (i := 5) (v := ?_) rfl (by kernel_rfl) (by kernel_rfl) (by kernel_rfl) rfl (fun _ _ _ h => h) (Or.inr (by assumption)) (by rfl) ?_ ?_
  rotate_left
  · (intro w; go_simp <;> (try with_reducible rfl))
  try simp only [Act.put, List.getElem_toArray, List.getElem_cons_succ, List.getElem_cons_zero, List.setIfInBounds_toArray, List.set_cons_zero, List.set_cons_succ]
  refine wpAnyG_takeW (i := 6) (v := ?_) rfl (by kernel_rfl) (by kernel_rfl) (by kernel_rfl) rfl (fun _ _ _ h => h) (Or.inr (by assumption)) (by rfl) ?_ ?_
  rotate_left
  · (intro w; go_simp <;> (try with_reducible rfl))
  try simp only [Act.put, List.getElem_toArray, List.getElem_cons_succ, List.getElem_cons_zero, List.setIfInBounds_toArray, List.set_cons_zero, List.set_cons_succ]
  refine wpAnyG_takeW (i := 7) (v := ?_) rfl (by kernel_rfl) (by kernel_rfl) (by kernel_rfl) rfl (fun _ _ _ h => h) (Or.inr (by assumption)) (by rfl) ?_ ?_
  rotate_left
  · (intro w; go_simp <;> (try with_reducible rfl))
  try simp only [Act.put, List.getElem_toArray, List.getElem_cons_succ, List.getElem_cons_zero, List.setIfInBounds_toArray, List.set_cons_zero, List.set_cons_succ]
  refine wpAnyG_take (i := 8) (v := ?_) rfl (by kernel_rfl) (by kernel_rfl) (by kernel_rfl) rfl (by kernel_rfl) (by kernel_rfl) (fun _ _ _ h => h) (by assumption) (by rfl) ?_ ?_
  rotate_left
  · (intro w hSw; (try dsimp only at hSw); go_simp <;> (try with_reducible rfl))
  try simp only [Act.put, List.getElem_toArray, List.getElem_cons_succ, List.getElem_cons_zero, List.setIfInBounds_toArray, List.set_cons_zero, List.set_cons_succ]
  refine wpAnyG_takeW (i := 9) (v := ?_) rfl (by kernel_rfl) (by kernel_rfl) (by kernel_rfl) rfl (fun _ _ _ h => h) (Or.inr (by assumption)) (by rfl) ?_ ?_
  rotate_left
  · (intro w; go_simp <;> (try with_reducible rfl))
  try simp only [Act.put, List.getElem_toArray, List.getElem_cons_succ, List.getElem_cons_zero, List.setIfInBounds_toArray, List.set_cons_zero, List.set_cons_succ]
  refine wpAnyG_takeW (i := 10) (v := ?_) rfl (by kernel_rfl) (by kernel_rfl) (by kernel_rfl) rfl (fun _ _ _ h => h) (Or.inr (by assumption)) (by rfl) ?_ ?_
  rotate_left
  · (intro w; go_simp <;> (try with_reducible rfl))
  try simp only [Act.put, List.getElem_toArray, List.getElem_cons_succ, List.getElem_cons_zero, List.setIfInBounds_toArray, List.set_cons_zero, List.set_cons_succ]
  refine wpAnyG_takeW (i := 11) (v := ?_) rfl (by kernel_rfl) (by kernel_rfl) (by kernel_rfl) rfl (fun _ _ _ h => h) (Or.inr (by assumption)) (by rfl) ?_ ?_
  rotate_left
  · (intro w; go_simp <;> (try with_reducible rfl))
  try simp only [Act.put, List.getElem_toArray, List.getElem_cons_succ, List.getElem_cons_zero, List.setIfInBounds_toArray, List.set_cons_zero, List.set_cons_succ]
  refine wpAnyG_takeW (i := 12) (v := ?_) rfl (by kernel_rfl) (by kernel_rfl) (by kernel_rfl) rfl (fun _ _ _ h => h) (Or.inr (by assumption)) (by rfl) ?_ ?_
  rotate_left
  · (intro w; go_simp <;> (try with_reducible rfl))
  try simp only [Act.put, List.getElem_toArray, List.getElem_cons_succ, List.getElem_cons_zero, List.setIfInBounds_toArray, List.set_cons_zero, List.set_cons_succ]
  refine wpAnyG_take (i := 13) (v := ?_) rfl (by kernel_rfl) (by kernel_rfl) (by kernel_rfl) rfl (by kernel_rfl) (by kernel_rfl) (fun _ _ _ h => h) (by assumption) (by rfl) ?_ ?_
  rotate_left
  · (intro w hSw; (try dsimp only at hSw); go_simp <;> (try with_reducible rfl))
  try simp only [Act.put, List.getElem_toArray, List.getElem_cons_succ, List.getElem_cons_zero, List.setIfInBounds_toArray, List.set_cons_zero, List.set_cons_succ]
  refine wpAnyG_takeW (i := 14) (v := ?_) rfl (by kernel_rfl) (by kernel_rfl) (by kernel_rfl) rfl (fun _ _ _ h => h) (Or.inr (by assumption)) (by rfl) ?_ ?_
  rotate_left
  · (intro w; go_simp <;> (try with_reducible rfl))
  try simp only [Act.put, List.getElem_toArray, List.getElem_cons_succ, List.getElem_cons_zero, List.setIfInBounds_toArray, List.set_cons_zero, List.set_cons_succ]
  refine wpAnyG_ready (rs := [15]) (by kernel_rfl) (by simp) ?_
  refine AllReadyG.cons (i := 15) rfl (fun K hK => ?_) ?_
  · go_simp
    refine hK.out _ _ ?_ (fun hHeld => ?_)
    · (try dsimp only) <;> (exact HS5.out _ (by repeat (first | exact Only.refl _ _ | apply Only.drew | apply Only.alloc | apply Only.drewN)))
    clear hK K
    try simp only [Act.put, List.getElem_toArray, List.getElem_cons_succ, List.getElem_cons_zero, List.setIfInBounds_toArray, List.set_cons_zero, List.set_cons_succ]
    refine wpAnyG_ready (rs := [16]) (by kernel_rfl) (by simp) ?_
    refine AllReadyG.cons (i := 16) rfl (fun K hK => ?_) ?_
    · (refine RowZ.step (us := [cN T.ents.length, cN T.next]) slLevel (by rfl) (.tmp 19) (.tmp 30) (by rfl) (by rfl) (by rfl) rfl (by intro j hj; match j, hj with | 0, _ => simp | 1, _ => simp) (by intro u hu; simp at hu; rcases hu with rfl | rfl <;> rfl) (by repeat (first | exact HRL.out | apply RowZ.drew | apply RowZ.alloc | apply RowZ.drewN)) (by omega) (by decide) ?_; intro bb cap w5 rr1 rr2)
      refine hK.out _ _ ?_ (fun hHeld => ?_)
      · (try dsimp only) <;> (exact HS5.out _ (Only.same (by repeat (first | exact Only.refl _ _ | apply Only.drew | apply Only.alloc | apply Only.drewN)) rr2))
      clear hK K
      try simp only [Act.put, List.getElem_toArray, List.getElem_cons_succ, List.getElem_cons_zero, List.setIfInBounds_toArray, List.set_cons_zero, List.set_cons_succ]
      refine wpAnyG_takeW (i := 17) (v := ?_) rfl (by kernel_rfl) (by kernel_rfl) (by kernel_rfl) rfl (fun _ _ _ h => h) (Or.inr (by assumption)) (by rfl) ?_ ?_
      rotate_left
      · (intro w; go_simp <;> (try with_reducible rfl))
      try simp only [Act.put, List.getElem_toArray, List.getElem_cons_succ, List.getElem_cons_zero, List.setIfInBounds_toArray, List.set_cons_zero, List.set_cons_succ]
      refine wpAnyG_takeW (i := 18) (v := ?_) rfl (by kernel_rfl) (by kernel_rfl) (by kernel_rfl) rfl (fun _ _ _ h => h) (Or.inr (by assumption)) (by rfl) ?_ ?_
      rotate_left
      · (intro w; go_simp <;> (try with_reducible rfl))
      try simp only [Act.put, List.getElem_toArray, List.getElem_cons_succ, List.getElem_cons_zero, List.setIfInBounds_toArray, List.set_cons_zero, List.set_cons_succ]
      refine wpAnyG_ready (rs := [19]) (by kernel_rfl) (by simp) ?_
      refine AllReadyG.late (i := 19) rfl (by kernel_rfl) (fun K hK => ?_) ?_
      · (obtain ⟨s1, s2, s3, s4⟩ := hHeld; go_simp)
        refine hK.out _ _ ?_
        clear hK K
        try simp only [Act.put, List.getElem_toArray, List.getElem_cons_succ, List.getElem_cons_zero, List.setIfInBounds_toArray, List.set_cons_zero, List.set_cons_succ]
        refine wpAnyG_done (by kernel_rfl) ?_ _
        obtain ⟨g6, H6, A6, O6⟩ := HFin.out _ w5 _ _ rr2 (by simp) rr1 (by repeat (first | exact Only.refl _ _ | apply Only.drew | apply Only.alloc | apply Only.drewN))
        have hput := prop_put_any H6 hn HG.out x HX.out HVv.out (-1)
        have hput2 := hput.mono fun e w' (h : e = Ending.returned (.tuple #[]) ∧ PutTo _ g6 b _ _ w') => (⟨h.1, TrTo.trans A6 O6 h.2.to⟩ : e = Ending.returned (.tuple #[]) ∧ TrTo w g b (T.dec x) w')
        have HPut := Lib.hid hput2
        clear hput hput2 H6 A6 O6 rr1 rr2 s1 s2 s3 s4 HFin HS5 HRL
        go_wp2_with fail
        refine HPut.out.mono ?_
        rintro e w9 ⟨rfl, h9⟩
        have H9 := Lib.hid h9
        clear h9
        go_wp2_with fail
        go_ret
        exact ⟨rfl, H9.out⟩
      exact AllReadyG.nil
    exact AllReadyG.nil
  exact AllReadyG.nil
end
end Go.Proofs.Ytjbfgafkjejdjaa

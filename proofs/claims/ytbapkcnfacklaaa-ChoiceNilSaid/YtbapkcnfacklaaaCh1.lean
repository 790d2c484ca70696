/- A ground of choices in memory: its table and its builder; Number; Most. Printed by gen_ch1.py. -/
import Derived.Test.YtbapkcnfacklaaaBld2
import Derived.Test.YtbapkcnfacklaaaAtoms4
import Derived.Test.YtbapkcnfacklaaaRegs
import Derived.Test.YtbapkcnfacklaaaShelf4
import Derived.BigFrame
set_option linter.unusedVariables false
namespace Go.Proofs.Ytbapkcnfacklaaa
open Go.RowKit
structure GrV where
 x1 : Value
 x2 : Value
 q : Value
 l : Value
 r : Value
structure GrAt (w : World) (gt gb : Tag) (c bt bb : Nat) (G : GrV) (T : Tab) (B : Bld) : Prop where
 blk : w.heap[c]? = some (.cells #[G.x1, G.x2, G.q, G.l, G.r, .pointer (some ⟨bt, 0, none⟩), .pointer (some ⟨bb, 0, none⟩)] 80 (0, 0))
 tc : (gt c).1 = 0
 tc' : (gb c).1 = 0
 tab : ∃ V, TabAt w gt bt V T
 bld : ∃ V, BldAt w gb bb V B
 dis : ∀ k, Mine gt k → ¬ Mine gb k
def GrTo (w : World) (gt gb : Tag) (c bt bb : Nat) (G : GrV) (T : Tab) (B : Bld) (w' : World) : Prop :=
 ∃ gt' gb', GrAt w' gt' gb' c bt bb G T B ∧ Agree w gt gt' ∧ Agree w gb gb' ∧ Only (fun k => Mine gt k ∨ Mine gb k) w w'
section
variable {w : World} {gt gb : Tag} {c bt bb : Nat} {G : GrV} {T : Tab} {B : Bld}
theorem GrAt.only (H : GrAt w gt gb c bt bb G T B) {w' : World} {F : Nat → Prop} (ho : Only F w w') (h1 : ∀ k, Mine gt k ∨ Mine gb k → ¬ F k) (h2 : ¬ F c) : GrAt w' gt gb c bt bb G T B := by
 obtain ⟨V, hV⟩ := H.tab
 obtain ⟨U, hU⟩ := H.bld
 exact ⟨only_block H.blk ho h2, H.tc, H.tc', ⟨V, hV.only ho (fun k hk => h1 k (.inl hk))⟩, ⟨U, hU.only ho (fun k hk => h1 k (.inr hk))⟩, H.dis⟩
theorem GrAt.only0 (H : GrAt w gt gb c bt bb G T B) {w' : World} (ho : Only (fun _ => False) w w') : GrAt w' gt gb c bt bb G T B := H.only ho (fun _ _ f => f) (fun f => f)
theorem GrTo.refl (H : GrAt w gt gb c bt bb G T B) : GrTo w gt gb c bt bb G T B w := ⟨gt, gb, H, Agree.refl _ _, Agree.refl _ _, Only.refl _ _⟩
theorem GrAt.step_t (H : GrAt w gt gb c bt bb G T B) {T2 : Tab} {w' : World} (h : TabTo w gt bt T2 w') : GrTo w gt gb c bt bb G T2 B w' := by
 obtain ⟨g2, V2, H2, A2, O2⟩ := h
 obtain ⟨U, hU⟩ := H.bld
 have hc := lt_block H.blk
 refine ⟨g2, gb, ⟨only_block H.blk O2 (by unfold Mine; rw [H.tc]; simp), by rw [A2 c hc]; exact H.tc, H.tc', ⟨V2, H2⟩, ⟨U, hU.only O2 (fun k hk hm => H.dis k hm hk)⟩, fun k hk hm => ?_⟩, A2, Agree.refl _ _, O2.mono fun k hk => .inl hk⟩
 have hlt : k < w.heap.size := by
  rcases Nat.lt_or_ge k w.heap.size with h | h
  ·exact h
  ·exact absurd (hU.fresh k h) hm
 refine H.dis k ?_ hm
 unfold Mine at hk ⊢
 rwa [A2 k hlt] at hk
theorem GrAt.step_b (H : GrAt w gt gb c bt bb G T B) {B2 : Bld} {w' : World} (h : BldTo w gb bb B2 w') : GrTo w gt gb c bt bb G T B2 w' := by
 obtain ⟨g2, V2, H2, A2, O2⟩ := h
 obtain ⟨U, hU⟩ := H.tab
 have hc := lt_block H.blk
 refine ⟨gt, g2, ⟨only_block H.blk O2 (by unfold Mine; rw [H.tc']; simp), H.tc, by rw [A2 c hc]; exact H.tc', ⟨U, hU.only O2 (fun k hk hm => H.dis k hk hm)⟩, ⟨V2, H2⟩, fun k hk hm => ?_⟩, Agree.refl _ _, A2, O2.mono fun k hk => .inr hk⟩
 have hlt : k < w.heap.size := by
  rcases Nat.lt_or_ge k w.heap.size with h | h
  ·exact h
  ·exact absurd (hU.fresh k h) hk
 refine H.dis k hk ?_
 unfold Mine at hm ⊢
 rwa [A2 k hlt] at hm
theorem Only.mine2 {w1 w2 : World} {gt1 gb1 : Tag} (h : Only (fun k => Mine gt k ∨ Mine gb k) w w1) (ht : Agree w gt gt1) (hb : Agree w gb gb1) (h1 : Only (fun k => Mine gt1 k ∨ Mine gb1 k) w1 w2) : Only (fun k => Mine gt k ∨ Mine gb k) w w2 := by
 refine h.trans h1 (fun k hk => ?_)
 rcases Nat.lt_or_ge k w.heap.size with hlt | hge
 ·refine .inl ?_
  unfold Mine at hk ⊢
  rwa [ht k hlt, hb k hlt] at hk
 ·exact .inr hge
theorem GrTo.trans {gt1 gb1 : Tag} {w1 w2 : World} {T2 : Tab} {B2 : Bld} (ht : Agree w gt gt1) (hb : Agree w gb gb1) (ho : Only (fun k => Mine gt k ∨ Mine gb k) w w1) (h2 : GrTo w1 gt1 gb1 c bt bb G T2 B2 w2) : GrTo w gt gb c bt bb G T2 B2 w2 := by
 obtain ⟨gt2, gb2, H2, A2, A2', O2⟩ := h2
 exact ⟨gt2, gb2, H2, ht.trans A2 ho.size, hb.trans A2' ho.size, ho.mine2 ht hb O2⟩
theorem GrTo.after {w1 w2 : World} (o1 : Only (fun _ => False) w w1) {T2 : Tab} {B2 : Bld} (h : GrTo w1 gt gb c bt bb G T2 B2 w2) : GrTo w gt gb c bt bb G T2 B2 w2 :=
 GrTo.trans (Agree.refl _ _) (Agree.refl _ _) (o1.mono fun _ f => f.elim) h
def Beside (w : World) (gt gb : Tag) (c : Nat) (v : Value) : Prop := ∀ k, Value.blk v = some k → k < w.heap.size ∧ ¬ Mine gt k ∧ ¬ Mine gb k ∧ k ≠ c
theorem Beside.more {v : Value} (h : Beside w gt gb c v) {w' : World} {gt' gb' : Tag} (hs : w.heap.size ≤ w'.heap.size) (ht : Agree w gt gt') (hb : Agree w gb gb') : Beside w' gt' gb' c v := fun k hk => by
 obtain ⟨h1, h2, h3, h4⟩ := h k hk
 refine ⟨by omega, ?_, ?_, h4⟩
 ·unfold Mine at h2 ⊢; rwa [ht k h1]
 ·unfold Mine at h3 ⊢; rwa [hb k h1]
theorem Contains_any {v : Value} {xs : List Int} (hI : Ints w v xs) (x : Int) (r : Bool) (hr : xs.contains x = r) :
  Calls Try.prog 33 #[v, .int .i64 x] w fun e w' => e = .returned (.bool r) ∧ w' = w := by
 subst hr
 obtain ⟨ao, cap, rfl, _, _⟩ := hI.shape
 by_cases h0 : xs.length = 0
 ·have hx : xs = [] := List.eq_nil_of_length_eq_zero h0
  subst hx
  exact Try.slices_Contains_int_empty ao cap x w
 ·obtain ⟨b, o, rfl, _, c⟩ := hI.cells _ _ _ rfl (by omega)
  have := Try.slices_Contains_int b o xs.length cap xs x w (Nat.le_refl _) (by omega) c
  rwa [List.take_of_length_le (Nat.le_refl _)] at this
theorem Table_gr (H : GrAt w gt gb c bt bb G T B) : Calls Try.prog 13 #[.pointer (some ⟨c, 0, none⟩)] w fun e w' => e = .returned (.pointer (some ⟨bt, 0, none⟩)) ∧ w' = w := by
 have q1 : w.cell? ⟨c, 5, none⟩ = some (.pointer (some ⟨bt, 0, none⟩)) := by rw [cell_block H.blk]; rfl
 go_enter Try.func13, Try.ntmps13
 go_wp2_with fail
 go_ret
 exact ⟨rfl, rfl⟩
theorem Builder_gr (H : GrAt w gt gb c bt bb G T B) : Calls Try.prog 14 #[.pointer (some ⟨c, 0, none⟩)] w fun e w' => e = .returned (.pointer (some ⟨bb, 0, none⟩)) ∧ w' = w := by
 have q1 : w.cell? ⟨c, 6, none⟩ = some (.pointer (some ⟨bb, 0, none⟩)) := by rw [cell_block H.blk]; rfl
 go_enter Try.func14, Try.ntmps14
 go_wp2_with fail
 go_ret
 exact ⟨rfl, rfl⟩
theorem Places_gr (H : GrAt w gt gb c bt bb G T B) {l : List Int} (hl : Ints w G.l l) (hb : l.length ≤ 1099511627776) : Calls Try.prog 16 #[.pointer (some ⟨c, 0, none⟩)] w fun e w' => ∃ v', e = .returned v' ∧ w'.ownsRow 0 3 1 v' l.length (l.map cI) ∧ (∀ k, v'.ownBlock = some k → w.heap.size ≤ k) ∧ Only (fun _ => False) w w' := by
 have q1 : w.cell? ⟨c, 3, none⟩ = some G.l := by rw [cell_block H.blk]; rfl
 have hC := Lib.hid (Clone_any hl hb)
 obtain ⟨ao, cap, e, -, -⟩ := hl.shape
 rw [e] at q1 hC
 clear hl
 go_enter Try.func16, Try.ntmps16
 go_wp2_with fail
 refine hC.out.mono ?_
 rintro e w1 ⟨v, rfl, r1, r2, r3⟩
 have HR := Lib.hid (And.intro r1 (And.intro r2 r3))
 obtain ⟨av, cv, rfl, -, -⟩ := own_slice r1
 clear r1 r2 r3
 go_wp2_with fail
 go_ret
 exact ⟨_, rfl, HR.out⟩
set_option maxRecDepth 100000 in
theorem Number_gr (H : GrAt w gt gb c bt bb G T B) {x : At} (hx : AtOk x) (r : Int) (hr : (T.num x).2 = r) :
  Calls Try.prog 12 #[.pointer (some ⟨c, 0, none⟩), encA x] w fun e w' => e = .returned (.int .i64 r) ∧ GrTo w gt gb c bt bb G (T.num x).1 B w' := by
 obtain ⟨W0, hW0⟩ : ∃ W0, W0 = w.alloc (.cells #[.int .u8 x.1, .int .i64 x.2.1, .int .i64 x.2.2.1, .int .i64 x.2.2.2] 37) := ⟨_, rfl⟩
 have o0 : Only (fun _ => False) w W0 := by rw [hW0]; exact (Only.refl _ _).alloc _
 have HK : Hid (∀ W, Only (fun _ => False) W0 W → W.cell? ⟨w.heap.size, 0, none⟩ = some (.int .u8 x.1) ∧ W.cell? ⟨w.heap.size, 1, none⟩ = some (.int .i64 x.2.1) ∧ W.cell? ⟨w.heap.size, 2, none⟩ = some (.int .i64 x.2.2.1) ∧ W.cell? ⟨w.heap.size, 3, none⟩ = some (.int .i64 x.2.2.2)) := fun W ho => by
  have b0 : W0.heap[w.heap.size]? = some (.cells #[.int .u8 x.1, .int .i64 x.2.1, .int .i64 x.2.2.1, .int .i64 x.2.2.2] 37) := by rw [hW0]; exact heap_alloc_new w _
  have c0 := only_block b0 ho (fun f => f)
  exact ⟨by rw [cell_block c0]; rfl, by rw [cell_block c0]; rfl, by rw [cell_block c0]; rfl, by rw [cell_block c0]; rfl⟩
 have HT : Hid (∀ W, Only (fun _ => False) W0 W → Calls Try.prog 13 #[.pointer (some ⟨c, 0, none⟩)] W fun e w' => e = .returned (.pointer (some ⟨bt, 0, none⟩)) ∧ w' = W) := fun W hW => Table_gr (H.only0 (o0.same hW))
 have HN : Hid (∀ W, Only (fun _ => False) W0 W → Calls Try.prog 30 #[.pointer (some ⟨bt, 0, none⟩), encA x] W fun e w' => e = .returned (.int .i64 r) ∧ GrTo w gt gb c bt bb G (T.num x).1 B w') := fun W hW => by
  have h2 := H.only0 (o0.same hW)
  obtain ⟨V, hV⟩ := h2.tab
  refine (Number_any hV hx r hr).mono fun e w' ⟨he, ht⟩ => ⟨he, ?_⟩
  exact GrTo.after (o0.same hW) (h2.step_t ht)
 have hS0 := HK.out W0.drew ((Only.refl _ _).drew)
 unfold encA at *
 clear o0 H hr
 go_enter Try.func12, Try.ntmps12
 go_wp2_with fail
 rw [← hW0]
 clear hW0
 refine wp_region_G (n := 5) (E := fun j => j == 3) (S := fun W => W.cell? ⟨w.heap.size, 0, none⟩ = some (.int .u8 x.1) ∧ W.cell? ⟨w.heap.size, 1, none⟩ = some (.int .i64 x.2.1) ∧ W.cell? ⟨w.heap.size, 2, none⟩ = some (.int .i64 x.2.2.1) ∧ W.cell? ⟨w.heap.size, 3, none⟩ = some (.int .i64 x.2.2.2)) (by kernel_rfl) rfl hS0 (fun hHeld => ?_)
 refine tqW (i := 0) (v := ?_) rfl (.inr (by assumption)) ?_ ?_
 rotate_left
 ·(intro w; go_simp <;> (try with_reducible rfl))
 try simp only [Act.put, zq1, zq3, zq4, zq5, zq6]
 refine tqK (i := 2) (v := ?_) rfl ?_ ?_
 rotate_left
 ·(intro w hSw; (try dsimp only at hSw); go_simp <;> (try with_reducible rfl))
 try simp only [Act.put, zq1, zq2, zq3, zq4, zq5, zq6]
 refine wpAnyG_ready (rs := [1]) (by kernel_rfl) (by simp) ?_
 refine AllReadyG.cons (i := 1) rfl (fun K hK => ?_) ?_
 ·(go_simp; refine (HT.out _ (by exact (by repeat (first | exact Only.refl _ _ | apply Only.drew | apply Only.alloc | apply Only.drewN)))).mono ?_; rintro e w5 ⟨rfl, rfl⟩; try go_wp2_with fail)
  refine hK.out _ _ ?_ (fun hHeld => ?_)
  ·(try dsimp only) <;> (exact HK.out _ (by repeat (first | exact Only.refl _ _ | apply Only.drew | apply Only.alloc | apply Only.drewN)))
  clear hK K
  try simp only [Act.put, zq1, zq2, zq3, zq4, zq5, zq6]
  refine wpAnyG_ready (rs := [3]) (by kernel_rfl) (by simp) ?_
  refine AllReadyG.late (i := 3) rfl (by kernel_rfl) (fun K hK => ?_) ?_
  ·(go_simp; refine (HN.out _ (by exact (by repeat (first | exact Only.refl _ _ | apply Only.drew | apply Only.alloc | apply Only.drewN)))).mono ?_; rintro e w6 ⟨rfl, o6⟩; try go_wp2_with fail)
   refine hK.out _ _ ?_
   clear hK K
   try simp only [Act.put, zq1, zq2, zq3, zq4, zq5, zq6]
   refine tqW (i := 4) (v := ?_) rfl (.inl (by kernel_rfl)) ?_ ?_
   rotate_left
   ·(intro w; go_simp <;> (try with_reducible rfl))
   try simp only [Act.put, zq1, zq2, zq3, zq4, zq5, zq6]
   refine wpAnyG_done (by kernel_rfl) ?_ _
   go_wp2_with fail
   go_ret
   exact ⟨rfl, o6⟩
  exact AllReadyG.nil
 exact AllReadyG.nil
end
end Go.Proofs.Ytbapkcnfacklaaa

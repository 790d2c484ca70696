/- Ch1 Ch2 Ch3 Ch4 Ch5, in one text. -/
import Derived.Test.YtbapkcnfacklaaaGreatBldA
import Derived.Test.YtbapkcnfacklaaaGreatAtomsA
import Derived.Test.YtbapkcnfacklaaaGreatRegs
import Derived.Test.YtbapkcnfacklaaaGreatShelf4
import Derived.BigFrame
import Derived.Test.YtbapkcnfacklaaaGreatNd2
import Derived.Carry
import Derived.Test.YtbapkcnfacklaaaGreatStepA
import Derived.Deep.DeepCutAuto
set_option linter.unusedVariables false
namespace Go.Proofs.YtbapkcnfacklaaaGreat
open Go.RowKit
structure GrV where
 x1 : Value
 x2 : Value
 q : Value
 l : Value
 r : Value
structure GrAt (w : World) (gt gb : Tag) (c bt bb : Nat) (G : GrV) (T : Tab) (B : Bld) : Prop where
 blk : w.heap[c]? = some (.cells #[G.x1, G.x2, G.q, G.l, G.r, .pointer (some ⟨bt, 0, none⟩), .pointer (some ⟨bb, 0, none⟩)] 91 (0, 0))
 tc : (gt c).1 = 0
 tc' : (gb c).1 = 0
 tab : ∃ V, TabAt w gt bt V T
 bld : ∃ V, BldAt w gb bb V B
 dis : ∀ k, Mine gt k → ¬ Mine gb k
def GrTo (w : World) (gt gb : Tag) (c bt bb : Nat) (G : GrV) (T : Tab) (B : Bld) (w' : World) : Prop :=
 ∃ gt' gb', GrAt w' gt' gb' c bt bb G T B ∧ Agree w gt gt' ∧ Agree w gb gb' ∧ Only (fun k => Mine gt k ∨ Mine gb k) w w'
section
variable {w : World} {gt gb : Tag} {c bt bb : Nat} {G : GrV} {T : Tab} {B : Bld}
theorem GrAt.only (H : GrAt w gt gb c bt bb G T B) {w' : World} {F : Nat → Prop} (ho : Only F w w') (h1 : ∀ k, Mine gt k ∨ Mine gb k → ¬ F k) (h2 : ¬ F c) : GrAt w' gt gb c bt bb G T B := by
 obtain ⟨V, hV⟩ := H.tab
 obtain ⟨U, hU⟩ := H.bld
 exact ⟨only_block H.blk ho h2, H.tc, H.tc', ⟨V, hV.only ho (fun k hk => h1 k (.inl hk))⟩, ⟨U, hU.only ho (fun k hk => h1 k (.inr hk))⟩, H.dis⟩
theorem GrAt.only0 (H : GrAt w gt gb c bt bb G T B) {w' : World} (ho : Only (fun _ => False) w w') : GrAt w' gt gb c bt bb G T B := H.only ho (fun _ _ f => f) (fun f => f)
theorem GrTo.refl (H : GrAt w gt gb c bt bb G T B) : GrTo w gt gb c bt bb G T B w := ⟨gt, gb, H, Agree.refl _ _, Agree.refl _ _, Only.refl _ _⟩
theorem GrAt.step_t (H : GrAt w gt gb c bt bb G T B) {T2 : Tab} {w' : World} (h : TabTo w gt bt T2 w') : GrTo w gt gb c bt bb G T2 B w' := by
 obtain ⟨g2, V2, H2, A2, O2⟩ := h
 obtain ⟨U, hU⟩ := H.bld
 have hc := lt_block H.blk
 refine ⟨g2, gb, ⟨only_block H.blk O2 (by unfold Mine; rw [H.tc]; simp), by rw [A2 c hc]; exact H.tc, H.tc', ⟨V2, H2⟩, ⟨U, hU.only O2 (fun k hk hm => H.dis k hm hk)⟩, fun k hk hm => ?_⟩, A2, Agree.refl _ _, O2.mono fun k hk => .inl hk⟩
 have hlt : k < w.heap.size := by
  rcases Nat.lt_or_ge k w.heap.size with h | h
  ·exact h
  ·exact absurd (hU.fresh k h) hm
 refine H.dis k ?_ hm
 unfold Mine at hk ⊢
 rwa [A2 k hlt] at hk
theorem GrAt.step_b (H : GrAt w gt gb c bt bb G T B) {B2 : Bld} {w' : World} (h : BldTo w gb bb B2 w') : GrTo w gt gb c bt bb G T B2 w' := by
 obtain ⟨g2, V2, H2, A2, O2⟩ := h
 obtain ⟨U, hU⟩ := H.tab
 have hc := lt_block H.blk
 refine ⟨gt, g2, ⟨only_block H.blk O2 (by unfold Mine; rw [H.tc']; simp), H.tc, by rw [A2 c hc]; exact H.tc', ⟨U, hU.only O2 (fun k hk hm => H.dis k hk hm)⟩, ⟨V2, H2⟩, fun k hk hm => ?_⟩, Agree.refl _ _, A2, O2.mono fun k hk => .inr hk⟩
 have hlt : k < w.heap.size := by
  rcases Nat.lt_or_ge k w.heap.size with h | h
  ·exact h
  ·exact absurd (hU.fresh k h) hk
 refine H.dis k hk ?_
 unfold Mine at hm ⊢
 rwa [A2 k hlt] at hm
theorem Only.mine2 {w1 w2 : World} {gt1 gb1 : Tag} (h : Only (fun k => Mine gt k ∨ Mine gb k) w w1) (ht : Agree w gt gt1) (hb : Agree w gb gb1) (h1 : Only (fun k => Mine gt1 k ∨ Mine gb1 k) w1 w2) : Only (fun k => Mine gt k ∨ Mine gb k) w w2 := by
 refine h.trans h1 (fun k hk => ?_)
 rcases Nat.lt_or_ge k w.heap.size with hlt | hge
 ·refine .inl ?_
  unfold Mine at hk ⊢
  rwa [ht k hlt, hb k hlt] at hk
 ·exact .inr hge
theorem GrTo.trans {gt1 gb1 : Tag} {w1 w2 : World} {T2 : Tab} {B2 : Bld} (ht : Agree w gt gt1) (hb : Agree w gb gb1) (ho : Only (fun k => Mine gt k ∨ Mine gb k) w w1) (h2 : GrTo w1 gt1 gb1 c bt bb G T2 B2 w2) : GrTo w gt gb c bt bb G T2 B2 w2 := by
 obtain ⟨gt2, gb2, H2, A2, A2', O2⟩ := h2
 exact ⟨gt2, gb2, H2, ht.trans A2 ho.size, hb.trans A2' ho.size, ho.mine2 ht hb O2⟩
theorem GrTo.after {w1 w2 : World} (o1 : Only (fun _ => False) w w1) {T2 : Tab} {B2 : Bld} (h : GrTo w1 gt gb c bt bb G T2 B2 w2) : GrTo w gt gb c bt bb G T2 B2 w2 :=
 GrTo.trans (Agree.refl _ _) (Agree.refl _ _) (o1.mono fun _ f => f.elim) h
def Beside (w : World) (gt gb : Tag) (c : Nat) (v : Value) : Prop := ∀ k, Value.blk v = some k → k < w.heap.size ∧ ¬ Mine gt k ∧ ¬ Mine gb k ∧ k ≠ c
theorem Beside.more {v : Value} (h : Beside w gt gb c v) {w' : World} {gt' gb' : Tag} (hs : w.heap.size ≤ w'.heap.size) (ht : Agree w gt gt') (hb : Agree w gb gb') : Beside w' gt' gb' c v := fun k hk => by
 obtain ⟨h1, h2, h3, h4⟩ := h k hk
 refine ⟨by omega, ?_, ?_, h4⟩
 ·unfold Mine at h2 ⊢; rwa [ht k h1]
 ·unfold Mine at h3 ⊢; rwa [hb k h1]
theorem Contains_any {v : Value} {xs : List Int} (hI : Ints w v xs) (x : Int) (r : Bool) (hr : xs.contains x = r) :
  Calls Tryz.prog 47 #[v, .int .i64 x] w fun e w' => e = .returned (.bool r) ∧ w' = w := by
 subst hr
 obtain ⟨ao, cap, rfl, _, _⟩ := hI.shape
 by_cases h0 : xs.length = 0
 ·have hx : xs = [] := List.eq_nil_of_length_eq_zero h0
  subst hx
  exact Tryz.slices_Contains_int_empty ao cap x w
 ·obtain ⟨b, o, rfl, _, c⟩ := hI.cells _ _ _ rfl (by omega)
  have := Tryz.slices_Contains_int b o xs.length cap xs x w (Nat.le_refl _) (by omega) c
  rwa [List.take_of_length_le (Nat.le_refl _)] at this
theorem Table_gr (H : GrAt w gt gb c bt bb G T B) : Calls Tryz.prog 18 #[.pointer (some ⟨c, 0, none⟩)] w fun e w' => e = .returned (.pointer (some ⟨bt, 0, none⟩)) ∧ w' = w := by
 have q1 : w.cell? ⟨c, 5, none⟩ = some (.pointer (some ⟨bt, 0, none⟩)) := by rw [cell_block H.blk]; rfl
 go_enter Tryz.func18, Tryz.ntmps18
 go_wp2_with fail
 go_ret
 exact ⟨rfl, rfl⟩
theorem Builder_gr (H : GrAt w gt gb c bt bb G T B) : Calls Tryz.prog 15 #[.pointer (some ⟨c, 0, none⟩)] w fun e w' => e = .returned (.pointer (some ⟨bb, 0, none⟩)) ∧ w' = w := by
 have q1 : w.cell? ⟨c, 6, none⟩ = some (.pointer (some ⟨bb, 0, none⟩)) := by rw [cell_block H.blk]; rfl
 go_enter Tryz.func15, Tryz.ntmps15
 go_wp2_with fail
 go_ret
 exact ⟨rfl, rfl⟩
theorem Places_gr (H : GrAt w gt gb c bt bb G T B) {l : List Int} (hl : Ints w G.l l) (hb : l.length ≤ 1099511627776) : Calls Tryz.prog 26 #[.pointer (some ⟨c, 0, none⟩)] w fun e w' => ∃ v', e = .returned v' ∧ w'.ownsRow 0 3 1 v' l.length (l.map cI) ∧ (∀ k, v'.ownBlock = some k → w.heap.size ≤ k) ∧ Only (fun _ => False) w w' := by
 have q1 : w.cell? ⟨c, 3, none⟩ = some G.l := by rw [cell_block H.blk]; rfl
 have hC := Lib.hid (Clone_any hl hb)
 obtain ⟨ao, cap, e, -, -⟩ := hl.shape
 rw [e] at q1 hC
 clear hl
 go_enter Tryz.func26, Tryz.ntmps26
 go_wp2_with fail
 refine hC.out.mono ?_
 rintro e w1 ⟨v, rfl, r1, r2, r3⟩
 have HR := Lib.hid (And.intro r1 (And.intro r2 r3))
 obtain ⟨av, cv, rfl, -, -⟩ := own_slice r1
 clear r1 r2 r3
 go_wp2_with fail
 go_ret
 exact ⟨_, rfl, HR.out⟩
set_option maxRecDepth 100000 in
theorem Number_gr (H : GrAt w gt gb c bt bb G T B) {x : At} (hx : AtOk x) (r : Int) (hr : (T.num x).2 = r) :
  Calls Tryz.prog 39 #[.pointer (some ⟨c, 0, none⟩), encA x] w fun e w' => e = .returned (.int .i64 r) ∧ GrTo w gt gb c bt bb G (T.num x).1 B w' := by
 obtain ⟨W0, hW0⟩ : ∃ W0, W0 = w.alloc (.cells #[.int .u8 x.1, .int .i64 x.2.1, .int .i64 x.2.2.1, .int .i64 x.2.2.2] 96) := ⟨_, rfl⟩
 have o0 : Only (fun _ => False) w W0 := by rw [hW0]; exact (Only.refl _ _).alloc _
 have HK : Hid (∀ W, Only (fun _ => False) W0 W → W.cell? ⟨w.heap.size, 0, none⟩ = some (.int .u8 x.1) ∧ W.cell? ⟨w.heap.size, 1, none⟩ = some (.int .i64 x.2.1) ∧ W.cell? ⟨w.heap.size, 2, none⟩ = some (.int .i64 x.2.2.1) ∧ W.cell? ⟨w.heap.size, 3, none⟩ = some (.int .i64 x.2.2.2)) := fun W ho => by
  have b0 : W0.heap[w.heap.size]? = some (.cells #[.int .u8 x.1, .int .i64 x.2.1, .int .i64 x.2.2.1, .int .i64 x.2.2.2] 96) := by rw [hW0]; exact heap_alloc_new w _
  have c0 := only_block b0 ho (fun f => f)
  exact ⟨by rw [cell_block c0]; rfl, by rw [cell_block c0]; rfl, by rw [cell_block c0]; rfl, by rw [cell_block c0]; rfl⟩
 have HT : Hid (∀ W, Only (fun _ => False) W0 W → Calls Tryz.prog 18 #[.pointer (some ⟨c, 0, none⟩)] W fun e w' => e = .returned (.pointer (some ⟨bt, 0, none⟩)) ∧ w' = W) := fun W hW => Table_gr (H.only0 (o0.same hW))
 have HN : Hid (∀ W, Only (fun _ => False) W0 W → Calls Tryz.prog 57 #[.pointer (some ⟨bt, 0, none⟩), encA x] W fun e w' => e = .returned (.int .i64 r) ∧ GrTo w gt gb c bt bb G (T.num x).1 B w') := fun W hW => by
  have h2 := H.only0 (o0.same hW)
  obtain ⟨V, hV⟩ := h2.tab
  refine (Number_any hV hx r hr).mono fun e w' ⟨he, ht⟩ => ⟨he, ?_⟩
  exact GrTo.after (o0.same hW) (h2.step_t ht)
 have hS0 := HK.out W0.drew ((Only.refl _ _).drew)
 unfold encA at *
 clear o0 H hr
 go_enter Tryz.func39, Tryz.ntmps39
 go_wp2_with fail
 rw [← hW0]
 clear hW0
 refine wp_region_G (n := 5) (E := fun j => j == 3) (S := fun W => W.cell? ⟨w.heap.size, 0, none⟩ = some (.int .u8 x.1) ∧ W.cell? ⟨w.heap.size, 1, none⟩ = some (.int .i64 x.2.1) ∧ W.cell? ⟨w.heap.size, 2, none⟩ = some (.int .i64 x.2.2.1) ∧ W.cell? ⟨w.heap.size, 3, none⟩ = some (.int .i64 x.2.2.2)) (by kernel_rfl) rfl hS0 (fun hHeld => ?_)
 refine tqW (i := 0) (v := ?_) rfl (.inr (by assumption)) ?_ ?_
 rotate_left
 ·(intro w; go_simp <;> (try with_reducible rfl))
 try simp only [Act.put, zq1, zq3, zq4, zq5, zq6]
 refine tqK (i := 2) (v := ?_) rfl ?_ ?_
 rotate_left
 ·(intro w hSw; (try dsimp only at hSw); go_simp <;> (try with_reducible rfl))
 try simp only [Act.put, zq1, zq2, zq3, zq4, zq5, zq6]
 refine wpAnyG_ready (rs := [1]) (by kernel_rfl) (by simp) ?_
 refine AllReadyG.cons (i := 1) rfl (fun K hK => ?_) ?_
 ·(go_simp; refine (HT.out _ (by exact (by repeat (first | exact Only.refl _ _ | apply Only.drew | apply Only.alloc | apply Only.drewN)))).mono ?_; rintro e w5 ⟨rfl, rfl⟩; try go_wp2_with fail)
  refine hK.out _ _ ?_ (fun hHeld => ?_)
  ·(try dsimp only) <;> (exact HK.out _ (by repeat (first | exact Only.refl _ _ | apply Only.drew | apply Only.alloc | apply Only.drewN)))
  clear hK K
  try simp only [Act.put, zq1, zq2, zq3, zq4, zq5, zq6]
  refine wpAnyG_ready (rs := [3]) (by kernel_rfl) (by simp) ?_
  refine AllReadyG.late (i := 3) rfl (by kernel_rfl) (fun K hK => ?_) ?_
  ·(go_simp; refine (HN.out _ (by exact (by repeat (first | exact Only.refl _ _ | apply Only.drew | apply Only.alloc | apply Only.drewN)))).mono ?_; rintro e w6 ⟨rfl, o6⟩; try go_wp2_with fail)
   refine hK.out _ _ ?_
   clear hK K
   try simp only [Act.put, zq1, zq2, zq3, zq4, zq5, zq6]
   refine tqW (i := 4) (v := ?_) rfl (.inl (by kernel_rfl)) ?_ ?_
   rotate_left
   ·(intro w; go_simp <;> (try with_reducible rfl))
   try simp only [Act.put, zq1, zq2, zq3, zq4, zq5, zq6]
   refine wpAnyG_done (by kernel_rfl) ?_ _
   go_wp2_with fail
   go_ret
   exact ⟨rfl, o6⟩
  exact AllReadyG.nil
 exact AllReadyG.nil
end
def Bld.adds (B : Bld) (l : List (List Int)) : Bld := l.foldl Bld.add B
theorem Bld.adds_app (B : Bld) (l m : List (List Int)) : B.adds (l ++ m) = (B.adds l).adds m := by simp [Bld.adds]
theorem Bld.adds_one (B : Bld) (c : List Int) : B.adds [c] = B.add c := rfl
def pairsAt (row : List Int) (i : Nat) : List (List Int) := (row.drop (i + 1)).map fun y => [-(row.getD i 0), -y]
def mostTo (row : List Int) (i : Nat) : List (List Int) := (List.range i).flatMap (pairsAt row)
def mostC (row : List Int) : List (List Int) := mostTo row row.length
theorem mostTo_succ (row : List Int) (i : Nat) : mostTo row (i + 1) = mostTo row i ++ pairsAt row i := by
 unfold mostTo; rw [List.range_succ, List.flatMap_append]; simp
section
variable {w : World}
theorem run_slice_int {P : Program} {t e : TypeId} {i : TypeInfo} (ht : P.underlying t = some (.slice e)) (hi : P.info? e = some i) (hs : i.size = 1) (b o m k cap : Nat) (hm : k ≤ m) (hc : m ≤ cap) (W : World) (z : Int) (hz : z = k) :
  (Instr.slice t (.slice (some ⟨b, o, none⟩) m cap) (some (.int .i64 z)) none none).run P W = .ok (.slice (some ⟨b, if cap = k then o else o + k, none⟩) (m - k) (cap - k)) W := by
 subst hz
 have h1 : (0 : Int) ≤ (k : Int) ∧ (k : Int) ≤ (m : Int) := ⟨by omega, by omega⟩
 simp [Instr.slice, Instr.sliceBounds, Instr.sliceBound, run_underlying ht, sizeOf, typeInfo, hi, hs, asIntOf, Addr.add, hm]
 by_cases hcap : cap = k
 ·simp [hcap]
 ·simp [hcap]
theorem run_slice_ints (b o m k cap : Nat) (hm : k ≤ m) (hc : m ≤ cap) (W : World) (z : Int) (hz : z = k) :
  (Instr.slice 35 (.slice (some ⟨b, o, none⟩) m cap) (some (.int .i64 z)) none none).run Tryz.prog W = .ok (.slice (some ⟨b, if cap = k then o else o + k, none⟩) (m - k) (cap - k)) W := by
 obtain ⟨ii, zz, t1, t2, t3, -, -⟩ := slInt.info
 exact run_slice_int (P := Tryz.prog) slInt.und t1 t3 b o m k cap hm hc W z hz
theorem Ints.dropO {b o n cap : Nat} {xs : List Int} (h : Ints w (.slice (some ⟨b, o, none⟩) n cap) xs) {k : Nat} (hk : k ≤ xs.length) : Ints w (.slice (some ⟨b, if cap = k then o else o + k, none⟩) (n - k) (cap - k)) (xs.drop k) := by
 obtain ⟨ao, c, he, hc1, hc2⟩ := h.shape
 simp only [Value.slice.injEq] at he
 obtain ⟨rfl, rfl, rfl⟩ := he
 refine ⟨⟨some ⟨b, if cap = k then o else o + k, none⟩, cap - k, by simp, by simp; omega, by omega⟩, fun ao' len' cap' hv hp => ?_, fun x hx => h.range x (List.mem_of_mem_drop hx), fun len' cap' hv => by simp at hv⟩
 rw [List.length_drop] at hp
 simp only [Value.slice.injEq] at hv
 obtain ⟨rfl, -, -⟩ := hv
 obtain ⟨b', off, e2, hb, hc⟩ := h.cells _ _ _ rfl (by omega)
 simp only [Option.some.injEq, Addr.mk.injEq, and_true] at e2
 obtain ⟨rfl, rfl⟩ := e2
 refine ⟨b, _, rfl, hb, fun i hi => ?_⟩
 rw [List.length_drop] at hi
 rw [if_neg (by omega)]
 have := hc (k + i) (by omega)
 rw [show o + k + i = o + (k + i) by omega, this]
 simp [List.getD, List.getElem?_drop]
theorem Ints.cellA {ao : Option Addr} {n cap : Nat} {xs : List Int} (h : Ints w (.slice ao n cap) xs) {i : Nat} (hi : i < xs.length) : ∃ b off, ao = some ⟨b, off, none⟩ ∧ w.cell? ⟨b, off + i, none⟩ = some (.int .i64 (xs.getD i 0)) := by
 obtain ⟨b, off, e, _, hc⟩ := h.cells _ _ _ rfl (by omega)
 exact ⟨b, off, e, hc i hi⟩
theorem lit2 (w : World) (x y : Int) (hx : InI64 x) (hy : InI64 y) : Ints (w.alloc (.cells #[.int .i64 x, .int .i64 y] 3)) (.slice (some ⟨w.heap.size, 0, none⟩) 2 2) [x, y] := by
 refine Ints.of_own ?_ fun z hz => ?_
 ·have := World.ownsRow_lit (base := 0) (e := 3) (size := 1) w #[.int .i64 x, .int .i64 y] 2 (Nat.zero_le _) (by unfold maxLen; omega) (by simp)
  simpa using this
 ·simp at hz
  rcases hz with rfl | rfl
  ·exact hx
  ·exact hy
variable {g : Tag} {b : Nat} {V : BldV} {B : Bld}
theorem BldTo.after {w1 w2 : World} (o1 : Only (fun _ => False) w w1) {B2 : Bld} (h : BldTo w1 g b B2 w2) : BldTo w g b B2 w2 :=
 BldTo.trans (Agree.refl _ _) (o1.mono fun _ f => f.elim) h
set_option maxRecDepth 100000 in
set_option maxHeartbeats 2000000 in
theorem Most_any (H : BldAt w g b V B) {v : Value} {xs : List Int} (hI : Ints w v xs) (hN : NotMine g v xs) (hs : ∀ z ∈ xs, -1000000 ≤ z ∧ z ≤ 1000000) (hl : xs.length ≤ 1000000) :
  Calls Tryz.prog 59 #[.pointer (some ⟨b, 0, none⟩), v] w fun e w' => e = .returned (.tuple #[]) ∧ BldTo w g b (B.adds (mostC xs)) w' := by
 obtain ⟨ao, cap, rfl, hc1, hc2⟩ := hI.shape
 obtain ⟨n, hn⟩ : ∃ n, xs.length = n := ⟨_, rfl⟩
 have HN := Lib.hid hn
 rw [hn] at hc1 hl hI hN ⊢
 have HI := Lib.hid hI
 have HNm := Lib.hid hN
 have HS := Lib.hid hs
 have H0 := Lib.hid (BldTo.refl H)
 clear hI hN hs hn H
 go_enter Tryz.func59, Tryz.ntmps59
 go_wp2_with fail
 go_loopw [10] (fun vi wr => ∃ i : Nat, vi = .int .i64 i ∧ i ≤ n ∧ Hid (BldTo w g b (B.adds (mostTo xs i)) wr)) (fun v _ => n - (RowKit.intOf v).toNat)
 case atStart => exact ⟨0, rfl, Nat.zero_le _, H0⟩
 case round =>
  obtain ⟨i, rfl, hi, HR⟩ := hrel
  by_cases ci : i < n
  ·obtain ⟨g1, V1, H1, A1, O1⟩ := HR.out
   have hI1 := HI.out.mine HNm.out O1
   have hi2 : i < xs.length := by rw [HN.out]; exact ci
   obtain ⟨bb, off, rfl, hcell⟩ := hI1.cellA hi2
   obtain ⟨x, hx⟩ : ∃ x, xs.getD i 0 = x := ⟨_, rfl⟩
   have hxb := HS.out x (by rw [← hx]; exact getD_mem' 0 hi2)
   rw [hx] at hcell
   have ewi : IntKind.i64.wrap ((i : Int) + 1) = (i : Int) + 1 := by rw [IntKind.wrap_i64]; omega
   have ewx : IntKind.i64.wrap (-x) = -x := by rw [IntKind.wrap_i64]; omega
   have hsl := fun W => run_slice_ints bb off n (i + 1) cap (by omega) hc1 W ((i : Int) + 1) (by omega)
   obtain ⟨o', ho'⟩ : ∃ o', o' = if cap = i + 1 then off else off + (i + 1) := ⟨_, rfl⟩
   obtain ⟨m, hm⟩ : ∃ m, n - (i + 1) = m := ⟨_, rfl⟩
   obtain ⟨c2, hc2'⟩ : ∃ c2, cap - (i + 1) = c2 := ⟨_, rfl⟩
   have HD : Hid (∀ W, Only (Mine g) w W → Ints W (.slice (some ⟨bb, o', none⟩) m c2) (xs.drop (i + 1))) := fun W hW => by
    have := (HI.out.mine HNm.out hW).dropO (k := i + 1) (by omega)
    rw [← ho', hm, hc2'] at this; exact this
   rw [← ho', hm, hc2'] at hsl
   have HX := Lib.hid hx
   have hmn : m ≤ n := by omega
   have Hm := Lib.hid hm
   have HEx := Lib.hid ewx
   clear hI1 ho' hm hc2' hx ewx H1 A1 O1
   go_wp2_with fail
   generalize wr = wo at *
   have HR0 : Hid (BldTo w g b ((B.adds (mostTo xs i)).adds ((pairsAt xs i).take 0)) wo) := by simpa [Bld.adds, Hid] using HR.out
   go_loopw [20] (fun vk wr => ∃ k : Nat, vk = .int .i64 k ∧ k ≤ m ∧ Hid (BldTo w g b ((B.adds (mostTo xs i)).adds ((pairsAt xs i).take k)) wr)) (fun v _ => m - (RowKit.intOf v).toNat)
   case atStart => exact ⟨0, rfl, Nat.zero_le _, HR0⟩
   case round =>
    clear HR HR0 hcell
    obtain ⟨k, rfl, hk, HR⟩ := hrel
    have hdl : (xs.drop (i + 1)).length = m := by rw [List.length_drop, HN.out, Hm.out]
    by_cases ck : k < m
    ·obtain ⟨g1, V1, H1, A1, O1⟩ := HR.out
     obtain ⟨b2, off2, e2, hcell⟩ := (HD.out wr O1).cellA (i := k) (by rw [hdl]; exact ck)
     simp only [Option.some.injEq, Addr.mk.injEq, and_true] at e2
     obtain ⟨rfl, rfl⟩ := e2
     obtain ⟨y, hy⟩ : ∃ y, (xs.drop (i + 1)).getD k 0 = y := ⟨_, rfl⟩
     have hyb := HS.out y (by rw [← hy]; exact List.mem_of_mem_drop (getD_mem' 0 (by rw [hdl]; exact ck)))
     rw [hy] at hcell
     have hpk : (pairsAt xs i).take (k + 1) = (pairsAt xs i).take k ++ [[-x, -y]] := by
      have hlt : k < (xs.drop (i + 1)).length := by rw [hdl]; exact ck
      unfold pairsAt
      have hk2 : (xs.drop (i + 1))[k]'hlt = y := by rw [← hy, List.getD_eq_getElem?_getD, List.getElem?_eq_getElem hlt]; rfl
      rw [List.take_succ_eq_append_getElem (by simpa using hlt), List.getElem_map, hk2]
      simp only [HX.out]
     have hAdd := Add_any (H1.only0 ((Only.refl (fun _ => False) wr).alloc (.cells #[.int .i64 (-x), .int .i64 (-y)] 3))) (lit2 wr (-x) (-y) ⟨by omega, by omega⟩ ⟨by omega, by omega⟩) (by simp)
     have hfin : ∀ w', BldTo (wr.alloc (.cells #[.int .i64 (-x), .int .i64 (-y)] 3)) g1 b (((B.adds (mostTo xs i)).adds ((pairsAt xs i).take k)).add [-x, -y]) w' → BldTo w g b ((B.adds (mostTo xs i)).adds ((pairsAt xs i).take (k + 1))) w' := fun w' h => by
      rw [hpk, Bld.adds_app, Bld.adds_one]
      exact BldTo.trans A1 O1 (BldTo.after ((Only.refl _ wr).alloc _) h)
     have ewk : IntKind.i64.wrap ((k : Int) + 1) = (k : Int) + 1 := by rw [IntKind.wrap_i64]; omega
     have ewx := HEx.out
     have ewy : IntKind.i64.wrap (-y) = -y := by rw [IntKind.wrap_i64]; omega
     have HAdd := Lib.hid hAdd
     have HFin := Lib.hid hfin
     have HEk := Lib.hid ewk
     clear hpk hAdd hfin hy H1 A1 O1 ewk hdl
     go_wp2_with fail
     refine HAdd.out.mono ?_
     rintro e w2 ⟨rfl, h2⟩
     have HF := Lib.hid (HFin.out w2 h2)
     have ewk := HEk.out
     clear h2 ewx ewy
     go_wp2_with fail
     go_roundw
     case rel => exact ⟨k + 1, by first | rfl | go_num, by omega, HF⟩
     case measure => simp [RowKit.intOf] <;> omega
    ·obtain rfl : m = k := by omega
     have HR2 : Hid (BldTo w g b (B.adds (mostTo xs (i + 1))) wr) := by
      have := HR.out
      rw [List.take_of_length_le (by unfold pairsAt; rw [List.length_map, hdl]; exact Nat.le_refl _)] at this
      rw [mostTo_succ, Bld.adds_app]; exact this
     clear HR
     go_wp2_with fail
     go_roundw
     case rel => exact ⟨i + 1, by first | rfl | go_num, by omega, HR2⟩
     case measure => simp [RowKit.intOf] <;> omega
  ·obtain rfl : n = i := by omega
   go_wp2_with fail
   go_end0
   refine ⟨rfl, ?_⟩
   have := HR.out
   unfold mostC
   rw [HN.out]; exact this
end
def oneC (node : Int) (row : List Int) : List (List Int) := (-node :: row) :: (mostC row ++ row.map fun n => [-n, node])
def Bld.one (B : Bld) (node : Int) (row : List Int) : Bld := if node = 0 ∨ row.contains 0 = true then B else B.adds (oneC node row)
section
variable {w : World} {gt gb : Tag} {c bt bb : Nat} {G : GrV} {T : Tab} {B : Bld}
def NotM (gt gb : Tag) (v : Value) (xs : List Int) : Prop := 0 < xs.length → ∀ k, Value.blk v = some k → ¬ Mine gt k ∧ ¬ Mine gb k
theorem Ints.mine2 {v : Value} {xs : List Int} (h : Ints w v xs) (hn : NotM gt gb v xs) {w' : World} (ho : Only (fun k => Mine gt k ∨ Mine gb k) w w') : Ints w' v xs :=
 h.only' ho fun hp k hk hm => by
  rcases hm with hm | hm
  ·exact (hn hp k hk).1 hm
  ·exact (hn hp k hk).2 hm
theorem NotM.b {v : Value} {xs : List Int} (hn : NotM gt gb v xs) : NotMine gb v xs := fun hp k hk => by
 have := (hn hp k hk).2
 unfold Mine at this
 exact Classical.not_not.1 this
theorem NotM.agree {v : Value} {xs : List Int} (hn : NotM gt gb v xs) (hI : Ints w v xs) {gt' gb' : Tag} (ht : Agree w gt gt') (hb : Agree w gb gb') : NotM gt' gb' v xs := fun hp k hk => by
 have hlt := hI.lt hp hk
 have := hn hp k hk
 unfold Mine at this ⊢
 rwa [ht k hlt, hb k hlt]
theorem Most_gr (H : GrAt w gt gb c bt bb G T B) {v : Value} {xs : List Int} (hI : Ints w v xs) (hN : NotM gt gb v xs) (hs : ∀ z ∈ xs, -1000000 ≤ z ∧ z ≤ 1000000) (hl : xs.length ≤ 1000000) :
  Calls Tryz.prog 59 #[.pointer (some ⟨bb, 0, none⟩), v] w fun e w' => e = .returned (.tuple #[]) ∧ GrTo w gt gb c bt bb G T (B.adds (mostC xs)) w' := by
 obtain ⟨V, hV⟩ := H.bld
 exact (Most_any hV hI hN.b hs hl).mono fun e w' ⟨he, h⟩ => ⟨he, H.step_b h⟩
theorem own_lit1 {w : World} {e : TypeId} {g : Nat} {u : Value} (h : w.heap[g]? = some (.cells #[u] e)) : w.ownsRow 0 e 1 (.slice (some ⟨g, 0, none⟩) 1 1) 1 [u] :=
 ⟨rfl, .inr ⟨g, 1, #[u], rfl, Nat.zero_le _, h, Nat.le_refl _, by unfold maxLen; omega, rfl, rfl⟩⟩
theorem GrAt.bcell (H : GrAt w gt gb c bt bb G T B) : w.cell? ⟨c, 6, none⟩ = some (.pointer (some ⟨bb, 0, none⟩)) := by rw [cell_block H.blk]; rfl
theorem Add_gr (H : GrAt w gt gb c bt bb G T B) {v : Value} {xs : List Int} (hI : Ints w v xs) (hb : xs.length ≤ 1099511627) :
  Calls Tryz.prog 58 #[.pointer (some ⟨bb, 0, none⟩), v] w fun e w' => e = .returned (.tuple #[]) ∧ GrTo w gt gb c bt bb G T (B.add xs) w' := by
 obtain ⟨V, hV⟩ := H.bld
 exact (Add_any hV hI hb).mono fun e w' ⟨he, h⟩ => ⟨he, H.step_b h⟩
set_option maxRecDepth 100000 in
set_option maxHeartbeats 2000000 in
theorem one_gr (H : GrAt w gt gb c bt bb G T B) {v : Value} {row : List Int} (hI : Ints w v row) (hn : NotM gt gb v row) (node : Int) (hb : -1000000 ≤ node ∧ node ≤ 1000000) (hs : ∀ z ∈ row, -1000000 ≤ z ∧ z ≤ 1000000) (hl : row.length ≤ 1000000) :
  Calls Tryz.prog 40 #[.pointer (some ⟨c, 0, none⟩), .int .i64 node, v] w fun e w' => e = .returned (.tuple #[]) ∧ GrTo w gt gb c bt bb G T (B.one node row) w' := by
 obtain ⟨ao, cap, rfl, hc1, hc2⟩ := hI.shape
 obtain ⟨n, hnl⟩ : ∃ n, row.length = n := ⟨_, rfl⟩
 have HN := Lib.hid hnl
 rw [hnl] at hc1 hl hI hn ⊢
 have HI := Lib.hid hI
 have HNm := Lib.hid hn
 have HS := Lib.hid hs
 have H0 := Lib.hid H
 obtain ⟨r0, hr0⟩ : ∃ r, row.contains 0 = r := ⟨_, rfl⟩
 have HR0 := Lib.hid hr0
 have HC := Lib.hid (Contains_any hI 0 r0 hr0)
 obtain ⟨B2, hB2⟩ : ∃ B2, B.one node row = B2 := ⟨_, rfl⟩
 rw [hB2]
 have HB2 := Lib.hid hB2
 clear hI hn hs hnl H hr0 hB2
 go_enter Tryz.func40, Tryz.ntmps40
 by_cases h0 : node = 0
 ·have hB : B2 = B := by rw [← HB2.out]; unfold Bld.one; rw [if_pos (.inl h0)]
  subst hB
  subst h0
  go_wp2_with fail
  ((try simp only [Exit.inBlock, Exit.then]); refine bodyPost_ret (results_none rfl _ _ _) rfl ?_)
  exact ⟨rfl, GrTo.refl H0.out⟩
 ·go_wp2_with fail
  refine HC.out.mono ?_
  rintro e w1 ⟨rfl, rfl⟩
  cases r0 with
  | true =>
   have hB : B2 = B := by rw [← HB2.out]; unfold Bld.one; rw [if_pos (.inr HR0.out)]
   subst hB
   go_wp2_with fail
   ((try simp only [Exit.inBlock, Exit.then]); refine bodyPost_ret (results_none rfl _ _ _) rfl ?_)
   exact ⟨rfl, GrTo.refl H0.out⟩
  | false =>
   have hB : B2 = B.adds (oneC node row) := by rw [← HB2.out]; unfold Bld.one; rw [if_neg (by rw [HR0.out]; simp [h0])]
   subst hB
   have ewn : IntKind.i64.wrap (-node) = -node := by rw [IntKind.wrap_i64]; omega
   have HK : Hid (∀ W, Only (fun _ => False) w1 W → W.cell? ⟨c, 6, none⟩ = some (.pointer (some ⟨bb, 0, none⟩))) := fun W hW => (H0.out.only0 hW).bcell
   have hS0 := HK.out w1.drew ((Only.refl _ _).drew)
   have HNews : Hid (∀ W, Only (fun _ => False) w1 W → ∀ ad, ao = some ad → ∀ j u, (row.map cI)[j]? = some u → W.cell? (ad.add j) = some u) := fun W hW => (HI.out.only0 hW).news
   have HNil : Hid (ao = none → n = 0 ∧ cap = 0) := fun e => HI.out.nil n cap (by rw [e])
   have HLen : Hid ((row.map cI).length = n * 1) := by rw [List.length_map, HN.out, Nat.mul_one]; exact rfl
   have HAd : Hid (∀ W v2, Only (fun _ => False) w1 W → W.ownsRow 0 3 1 v2 (1 + n) ([cI (-node)] ++ row.map cI) → Calls Tryz.prog 58 #[.pointer (some ⟨bb, 0, none⟩), v2] W fun e w' => e = .returned (.tuple #[]) ∧ GrTo w1 gt gb c bt bb G T (B.add (-node :: row)) w') := fun W v2 hW hown => by
    have hI2 : Ints W v2 (-node :: row) := by
     refine Ints.of_own ?_ fun z hz => ?_
     ·have e1 : 1 + n = (-node :: row).length := by rw [List.length_cons, HN.out]; omega
      rw [e1] at hown
      simpa using hown
     ·rcases List.mem_cons.1 hz with rfl | hz
      ·exact ⟨by omega, by omega⟩
      ·have := HS.out z hz; exact ⟨by omega, by omega⟩
    refine (Add_gr (H0.out.only0 hW) hI2 (by rw [List.length_cons, HN.out]; omega)).mono fun e w' ⟨he, h⟩ => ⟨he, GrTo.after hW h⟩
   go_wp2_with fail
   go_cut [] (fun wx => GrTo w1 gt gb c bt bb G T (B.add (-node :: row)) wx)
   case first =>
    refine wp_region_G (n := 10) (E := fun j => j == 9) (S := fun W => W.cell? ⟨c, 6, none⟩ = some (.pointer (some ⟨bb, 0, none⟩))) (by kernel_rfl) rfl hS0 (fun hHeld => ?_)
    refine tqW (i := 0) (v := ?_) rfl (.inr (by assumption)) ?_ ?_
    rotate_left
    ·(intro w; go_simp <;> (try with_reducible rfl))
    try simp only [Act.put, zq1, zq3, zq4, zq5, zq6]
    refine tqW (i := 1) (v := ?_) rfl (.inr (by assumption)) ?_ ?_
    rotate_left
    ·(intro w; go_simp <;> (try with_reducible rfl))
    try simp only [Act.put, zq1, zq2, zq3, zq4, zq5, zq6]
    refine tqW (i := 2) (v := ?_) rfl (.inr (by assumption)) ?_ ?_
    rotate_left
    ·(intro w; go_simp <;> (try with_reducible rfl))
    try simp only [Act.put, zq1, zq2, zq3, zq4, zq5, zq6]
    refine tqK (i := 3) (v := ?_) rfl ?_ ?_
    rotate_left
    ·(intro w hSw; (try dsimp only at hSw); go_simp <;> (try with_reducible rfl))
    try simp only [Act.put, zq1, zq2, zq3, zq4, zq5, zq6]
    refine tqW (i := 4) (v := ?_) rfl (.inr (by assumption)) ?_ ?_
    rotate_left
    ·(intro w; go_simp <;> (try with_reducible rfl))
    try simp only [Act.put, zq1, zq2, zq3, zq4, zq5, zq6]
    refine tqW (i := 5) (v := ?_) rfl (.inr (by assumption)) ?_ ?_
    rotate_left
    ·(intro w; go_simp <;> (try with_reducible rfl))
    try simp only [Act.put, zq1, zq2, zq3, zq4, zq5, zq6]
    refine tqW (i := 7) (v := ?_) rfl (.inr (by assumption)) ?_ ?_
    rotate_left
    ·(intro w; go_simp <;> (try with_reducible rfl))
    try simp only [Act.put, zq1, zq2, zq3, zq4, zq5, zq6]
    refine wpAnyG_ready (rs := [6]) (by kernel_rfl) (by simp) ?_
    refine AllReadyG.cons (i := 6) rfl (fun K hK => ?_) ?_
    ·go_simp
     refine hK.out _ _ ?_ (fun hHeld => ?_)
     ·(try dsimp only) <;> (exact HK.out _ (by repeat (first | exact Only.refl _ _ | apply Only.drew | apply Only.alloc | apply Only.drewN)))
     clear hK K
     try simp only [Act.put, zq1, zq2, zq3, zq4, zq5, zq6]
     refine wpAnyG_ready (rs := [8]) (by kernel_rfl) (by simp) ?_
     refine AllReadyG.cons (i := 8) rfl (fun K hK => ?_) ?_
     ·(refine stepAN slInt (by rfl) (.tmp 20) (.tmp 21) (by rfl) (by rfl) (own_lit1 (by exact heap_alloc_new _ _)) (by rfl) HLen.out HNil.out (by exact HNews.out _ (by repeat (first | exact Only.refl _ _ | apply Only.drew | apply Only.alloc | apply Only.drewN))) (by intro u hu; obtain ⟨q, -, rfl⟩ := List.mem_map.1 hu; rfl) (by omega) (by decide) ?_; intro ao5 cap5 w5 r5 o5 nr5; have oA : Only (fun _ => False) w1 w5 := Only.trans (by repeat (first | exact Only.refl _ _ | apply Only.drew | apply Only.alloc | apply Only.drewN)) o5 (fun k hk => .inr (by simp [Value.ownBlock] at hk; (try simp); omega)))
      refine hK.out _ _ ?_ (fun hHeld => ?_)
      ·(try dsimp only) <;> (exact HK.out _ oA)
      clear hK K
      try simp only [Act.put, zq1, zq2, zq3, zq4, zq5, zq6]
      refine wpAnyG_ready (rs := [9]) (by kernel_rfl) (by simp) ?_
      refine AllReadyG.late (i := 9) rfl (by kernel_rfl) (fun K hK => ?_) ?_
      ·(go_simp; refine (HAd.out _ _ oA r5).mono ?_; rintro e w7 ⟨rfl, h7⟩; try go_wp2_with fail)
       refine hK.out _ _ ?_
       clear hK K
       try simp only [Act.put, zq1, zq2, zq3, zq4, zq5, zq6]
       refine wpAnyG_done (by kernel_rfl) ?_ _
       go_wp2_with fail
       go_meet
       exact h7
      exact AllReadyG.nil
     exact AllReadyG.nil
    exact AllReadyG.nil
   case rest =>
    clear hS0 HK HNews HNil HLen HAd
    obtain ⟨gt1, gb1, H1, A1, A1', O1⟩ := hcut
    have hI1 := HI.out.mine2 HNm.out O1
    have hbc := H1.bcell
    have HM := Lib.hid (Most_gr H1 hI1 (HNm.out.agree HI.out A1 A1') HS.out (by rw [HN.out]; exact hl))
    have HT1 : Hid (∀ w2, GrTo wc gt1 gb1 c bt bb G T ((B.add (-node :: row)).adds (mostC row)) w2 → GrTo w1 gt gb c bt bb G T ((B.adds ((-node :: row) :: mostC row)).adds ((row.map fun n => [-n, node]).take 0)) w2) := fun w2 h => GrTo.trans A1 A1' O1 h
    clear H1 A1 A1' O1 hI1
    go_wp2_with fail
    refine HM.out.mono ?_
    rintro e w2 ⟨rfl, h2⟩
    have H3 := Lib.hid (HT1.out w2 h2)
    clear h2 hbc HM HT1
    go_wp2_with fail
    go_loopw [32] (fun vk wr => ∃ k : Nat, vk = .int .i64 k ∧ k ≤ n ∧ Hid (GrTo w1 gt gb c bt bb G T ((B.adds ((-node :: row) :: mostC row)).adds ((row.map fun n => [-n, node]).take k)) wr)) (fun v _ => n - (RowKit.intOf v).toNat)
    case atStart => exact ⟨0, rfl, Nat.zero_le _, H3⟩
    case round =>
     clear H3
     obtain ⟨k, rfl, hk, HR⟩ := hrel
     by_cases ck : k < n
     ·obtain ⟨gt1, gb1, H1, A1, A1', O1⟩ := HR.out
      have hbc := H1.bcell
      have hkr : k < row.length := by rw [HN.out]; exact ck
      obtain ⟨b2, off2, rfl, hcell⟩ := (HI.out.mine2 HNm.out O1).cellA hkr
      obtain ⟨y, hy⟩ : ∃ y, row.getD k 0 = y := ⟨_, rfl⟩
      have hyb := HS.out y (by rw [← hy]; exact getD_mem' 0 hkr)
      rw [hy] at hcell
      have hpk : (row.map fun n => [-n, node]).take (k + 1) = (row.map fun n => [-n, node]).take k ++ [[-y, node]] := by
       rw [List.take_succ_eq_append_getElem (by simpa using hkr), List.getElem_map]
       have hk2 : row[k]'hkr = y := by rw [← hy, List.getD_eq_getElem?_getD, List.getElem?_eq_getElem hkr]; rfl
       rw [hk2]
      have hAdd := Add_gr (H1.only0 ((Only.refl (fun _ => False) wr).alloc (.cells #[.int .i64 (-y), .int .i64 node] 3))) (lit2 wr (-y) node ⟨by omega, by omega⟩ ⟨by omega, by omega⟩) (by simp)
      have hfin : ∀ w', GrTo (wr.alloc (.cells #[.int .i64 (-y), .int .i64 node] 3)) gt1 gb1 c bt bb G T (((B.adds ((-node :: row) :: mostC row)).adds ((row.map fun n => [-n, node]).take k)).add [-y, node]) w' → GrTo w1 gt gb c bt bb G T ((B.adds ((-node :: row) :: mostC row)).adds ((row.map fun n => [-n, node]).take (k + 1))) w' := fun w' h => by
       rw [hpk, Bld.adds_app, Bld.adds_one]
       exact GrTo.trans A1 A1' O1 (GrTo.after ((Only.refl _ wr).alloc _) h)
      have ewk : IntKind.i64.wrap ((k : Int) + 1) = (k : Int) + 1 := by rw [IntKind.wrap_i64]; omega
      have ewy : IntKind.i64.wrap (-y) = -y := by rw [IntKind.wrap_i64]; omega
      have HAdd := Lib.hid hAdd
      have HFin := Lib.hid hfin
      have HEk := Lib.hid ewk
      clear hpk hAdd hfin hy H1 A1 A1' O1 ewk
      go_wp2_with fail
      refine HAdd.out.mono ?_
      rintro e w3 ⟨rfl, h3⟩
      have HF := Lib.hid (HFin.out w3 h3)
      have ewk := HEk.out
      clear h3 ewy
      go_wp2_with fail
      go_roundw
      case rel => exact ⟨k + 1, by first | rfl | go_num, by omega, HF⟩
      case measure => simp [RowKit.intOf] <;> omega
     ·obtain rfl : n = k := by omega
      go_wp2_with fail
      go_end0
      refine ⟨rfl, ?_⟩
      have := HR.out
      rw [List.take_of_length_le (by rw [List.length_map, HN.out]; exact Nat.le_refl _)] at this
      have e1 : B.adds (oneC node row) = (B.adds ((-node :: row) :: mostC row)).adds (row.map fun n => [-n, node]) := by
       rw [← Bld.adds_app]; rfl
      rw [e1]; exact this
end
def Tab.nums (T : Tab) : List At → Tab × List Int
 | [] => (T, [])
 | a :: r => (((T.num a).1.nums r).1, (T.num a).2 :: ((T.num a).1.nums r).2)
theorem Tab.nums_snoc : ∀ (l : List At) (T : Tab) (a : At), T.nums (l ++ [a]) = (((T.nums l).1.num a).1, (T.nums l).2 ++ [((T.nums l).1.num a).2])
 | [], T, a => rfl
 | b :: r, T, a => by
  rw [List.cons_append, Tab.nums, Tab.nums_snoc r, Tab.nums]
  rfl
theorem Tab.nums_len : ∀ (l : List At) (T : Tab), (T.nums l).2.length = l.length
 | [], _ => rfl
 | b :: r, T => by rw [Tab.nums, List.length_cons, List.length_cons, Tab.nums_len r]
structure Tab.Ok (T : Tab) : Prop where
 lim : T.limit ≤ 65536
 len : T.l.length ≤ T.limit
theorem Tab.num_ok {T : Tab} (h : T.Ok) (a : At) : (T.num a).1.Ok ∧ 0 ≤ (T.num a).2 ∧ (T.num a).2 ≤ 65536 := by
 have h1 := h.lim
 have h2 := h.len
 unfold Tab.num
 split
 ·rename_i hm
  refine ⟨h, by simp, ?_⟩
  have := List.idxOf_lt_length_of_mem hm
  simp only [numOf, if_pos hm]
  omega
 ·split
  ·exact ⟨⟨h1, h2⟩, by simp, by simp⟩
  ·rename_i hlt
   refine ⟨⟨h1, ?_⟩, by simp; omega, by simp; omega⟩
   simp; omega
theorem Tab.nums_ok : ∀ (l : List At) {T : Tab}, T.Ok → (T.nums l).1.Ok ∧ ∀ z ∈ (T.nums l).2, 0 ≤ z ∧ z ≤ 65536
 | [], T, h => ⟨h, fun z hz => by cases hz⟩
 | a :: r, T, h => by
  obtain ⟨h1, h2⟩ := Tab.num_ok h a
  obtain ⟨h3, h4⟩ := Tab.nums_ok r h1
  refine ⟨h3, fun z hz => ?_⟩
  rw [Tab.nums] at hz
  rcases List.mem_cons.1 hz with rfl | hz
  ·exact h2
  ·exact h4 z hz
def nodeA (p : Nat) : At := (1, p, 0, 0)
def relA (p i : Nat) : At := (2, p, i, 0)
def valA (p j k : Nat) : At := (3, p, j, k)
def relAs (p n : Nat) : List At := (List.range n).map (relA p)
def valAs (p j n : Nat) : List At := (List.range n).map (valA p j)
theorem relAs_succ (p n : Nat) : relAs p (n + 1) = relAs p n ++ [relA p n] := by unfold relAs; rw [List.range_succ, List.map_append]; rfl
theorem valAs_succ (p j n : Nat) : valAs p j (n + 1) = valAs p j n ++ [valA p j n] := by unfold valAs; rw [List.range_succ, List.map_append]; rfl
abbrev TB := Tab × Bld
def TB.row (S : TB) (node : Int) (ats : List At) : TB := ((S.1.nums ats).1, S.2.one node (S.1.nums ats).2)
def TB.vars (S : TB) (node : Int) (p : Nat) (vs : List VarD) : Nat → TB
 | 0 => S
 | j + 1 => (S.vars node p vs j).row node (valAs p j (vs.getD j default).values.length)
def TB.pack (S : TB) (p : Nat) (pk : PackD) : TB :=
 (TB.row ((S.1.num (nodeA p)).1, S.2) (S.1.num (nodeA p)).2 (relAs p pk.rels.length)).vars (S.1.num (nodeA p)).2 p pk.vars pk.vars.length
def TB.choices (S : TB) (x : RecD) (l : List Nat) : TB := l.foldl (fun S p => S.pack p (x.pack p)) S
theorem TB.choices_snoc (S : TB) (x : RecD) (l : List Nat) (p : Nat) : S.choices x (l ++ [p]) = (S.choices x l).pack p (x.pack p) := by simp [TB.choices]
theorem TB.vars_ok {S : TB} (h : S.1.Ok) (node : Int) (p : Nat) (vs : List VarD) : ∀ j, (S.vars node p vs j).1.Ok
 | 0 => h
 | j + 1 => (Tab.nums_ok _ (TB.vars_ok h node p vs j)).1
theorem TB.pack_ok {S : TB} (h : S.1.Ok) (p : Nat) (pk : PackD) : (S.pack p pk).1.Ok :=
 TB.vars_ok (S := TB.row ((S.1.num (nodeA p)).1, S.2) (S.1.num (nodeA p)).2 (relAs p pk.rels.length)) (Tab.nums_ok _ (Tab.num_ok h _).1).1 _ _ _ _
theorem TB.choices_ok {S : TB} (h : S.1.Ok) (x : RecD) (l : List Nat) : (S.choices x l).1.Ok := by
 unfold TB.choices
 induction l generalizing S with
 | nil => exact h
 | cons a r ih => exact ih (TB.pack_ok h _ _)
section
variable {w w2 wr : World} {gt gb gt1 gb1 : Tag} {c bt bb : Nat} {G : GrV} {T : Tab} {B : Bld}
def RowG (w2 : World) (gt1 gb1 : Tag) (c bt bb : Nat) (G : GrV) (T : Tab) (B : Bld) (wr : World) (v : Value) (xs : List Int) : Prop :=
 ∃ gt' gb', GrAt wr gt' gb' c bt bb G T B ∧ Agree w2 gt1 gt' ∧ Agree w2 gb1 gb' ∧ Only (fun k => Mine gt1 k ∨ Mine gb1 k) w2 wr ∧ wr.ownsRow 0 3 1 v xs.length (xs.map cI) ∧ Beside wr gt' gb' c v ∧ ∀ k, v.ownBlock = some k → w2.heap.size ≤ k
theorem RowG.start (h : GrTo w2 gt1 gb1 c bt bb G T B wr) : RowG w2 gt1 gb1 c bt bb G T B wr nilS [] := by
 obtain ⟨a, b, H, A, A', O⟩ := h
 exact ⟨a, b, H, A, A', O, World.ownsRow_nil _ _ _ _, (fun k hk => by cases hk), fun k hk => by cases hk⟩
theorem RowG.num {v : Value} {xs : List Int} (h : RowG w2 gt1 gb1 c bt bb G T B wr v xs) {x : At} (hx : AtOk x) (r : Int) (hr : (T.num x).2 = r) :
  Calls Tryz.prog 39 #[.pointer (some ⟨c, 0, none⟩), encA x] wr fun e w' => e = .returned (.int .i64 r) ∧ RowG w2 gt1 gb1 c bt bb G (T.num x).1 B w' v xs := by
 obtain ⟨a, b, H, A, A', O, R, S, N⟩ := h
 refine (Number_gr H hx r hr).mono ?_
 rintro e w' ⟨rfl, a2, b2, H2, A2, A2', O2⟩
 refine ⟨rfl, a2, b2, H2, A.trans A2 O.size, A'.trans A2' O.size, O.mine2 A A' O2, own_only R O2 fun k hk hm => ?_, S.more O2.size A2 A2', N⟩
 have hk' : Value.blk v = some k := by
  obtain ⟨ao, cap, rfl, -, -⟩ := own_slice R
  cases ao with
  | none => cases hk
  | some ad => exact hk
 rcases hm with hm | hm
 ·exact (S k hk').2.1 hm
 ·exact (S k hk').2.2.1 hm
theorem RowG.app {v v' : Value} {xs : List Int} (h : RowG w2 gt1 gb1 c bt bb G T B wr v xs) {w3 w4 : World} (o3 : Only (fun _ => False) wr w3) {z : Int} (r : w4.ownsRow 0 3 1 v' (xs.length + 1) (xs.map cI ++ [cI z])) (o : Only (fun k => v.ownBlock = some k) w3 w4) (a : AppTo w3 v v' (xs.length + 1)) :
  RowG w2 gt1 gb1 c bt bb G T B w4 v' (xs ++ [z]) := by
 obtain ⟨gt', gb', H, A, A', O, R, S, N⟩ := h
 have hbl : ∀ k, v.ownBlock = some k → Value.blk v = some k := fun k hk => by
  obtain ⟨ao, cap, rfl, -, -⟩ := own_slice R
  cases ao with
  | none => cases hk
  | some ad => exact hk
 have o4 : Only (fun k => v.ownBlock = some k) wr w4 := (o3.mono fun _ f => f.elim).same o
 have H4 := H.only o4 (fun k hk hv => by
  obtain ⟨-, s1, s2, -⟩ := S k (hbl k hv)
  rcases hk with hk | hk
  ·exact s1 hk
  ·exact s2 hk) (fun hv => (S c (hbl c hv)).2.2.2 rfl)
 refine ⟨gt', gb', H4, A, A', O.trans o4 fun k hk => .inr (N k hk), by simpa using r, fun k hk => ?_, fun k hk => ?_⟩
 ·obtain ⟨g, cap, rfl, -, -, hg⟩ := a
  simp [Value.blk] at hk
  subst hk
  rcases hg with hg | hg
  ·obtain ⟨s0, s1, s2, s3⟩ := S g (hbl g hg)
   exact ⟨by have := o4.size; omega, s1, s2, s3⟩
  ·have hlt : g < w4.heap.size := own_lt r rfl
   have := o3.size
   obtain ⟨V, hV⟩ := H.tab
   obtain ⟨U, hU⟩ := H.bld
   have hc := lt_block H.blk
   refine ⟨hlt, ?_, ?_, by omega⟩
   ·unfold Mine; rw [hV.fresh g (by omega)]; simp
   ·unfold Mine; rw [hU.fresh g (by omega)]; simp
 ·obtain ⟨g, cap, rfl, -, -, hg⟩ := a
  simp [Value.ownBlock] at hk
  subst hk
  rcases hg with hg | hg
  ·exact N g hg
  ·have := O.size; have := o3.size; omega
theorem RowG.ints {v : Value} {xs : List Int} (h : RowG w2 gt1 gb1 c bt bb G T B wr v xs) (hx : ∀ z ∈ xs, 0 ≤ z ∧ z ≤ 65536) : ∃ gt' gb', GrAt wr gt' gb' c bt bb G T B ∧ Agree w2 gt1 gt' ∧ Agree w2 gb1 gb' ∧ Only (fun k => Mine gt1 k ∨ Mine gb1 k) w2 wr ∧ Ints wr v xs ∧ NotM gt' gb' v xs := by
 obtain ⟨a, b, H, A, A', O, R, S, -⟩ := h
 exact ⟨a, b, H, A, A', O, Ints.of_own R fun z hz => ⟨by have := hx z hz; omega, by have := hx z hz; omega⟩, fun _ k hk => ⟨(S k hk).2.1, (S k hk).2.2.1⟩⟩
theorem RowG.one {v : Value} {xs : List Int} (h : RowG w2 gt1 gb1 c bt bb G T B wr v xs) (hx : ∀ z ∈ xs, 0 ≤ z ∧ z ≤ 65536) (hl : xs.length ≤ 1000000) (node : Int) (hb : 0 ≤ node ∧ node ≤ 65536) :
  Calls Tryz.prog 40 #[.pointer (some ⟨c, 0, none⟩), .int .i64 node, v] wr fun e w' => e = .returned (.tuple #[]) ∧ GrTo w2 gt1 gb1 c bt bb G T (B.one node xs) w' := by
 obtain ⟨a, b, H, A, A', O, I, N⟩ := h.ints hx
 exact (one_gr H I N node ⟨by omega, by omega⟩ (fun z hz => by have := hx z hz; omega) hl).mono fun e w' ⟨he, h⟩ => ⟨he, GrTo.trans A A' O h⟩
end
structure MidRec (x : RecD) : Prop where
 packs : x.packs.length ≤ 1000
 rels : ∀ p ∈ x.packs, p.rels.length ≤ 1000
 vars : ∀ p ∈ x.packs, p.vars.length ≤ 1000
 vals : ∀ p ∈ x.packs, ∀ v ∈ p.vars, v.values.length ≤ 1000
theorem zI : InI64 0 := ⟨by decide, by decide⟩
theorem takeI_succ {l : List Nat} {i p : Nat} (h : l[i]? = some p) : l.take (i + 1) = l.take i ++ [p] := by
 obtain ⟨hlt, rfl⟩ := List.getElem?_eq_some_iff.1 h
 rw [List.take_succ_eq_append_getElem hlt]
section
variable {w : World} {gt gb : Tag} {c bt bb Bs : Nat} {G : GrV} {T : Tab} {B : Bld}
set_option maxRecDepth 100000 in
set_option maxHeartbeats 4000000 in
theorem Choices_gr (H : GrAt w gt gb c bt bb G T B) {x : RecD} (hx : RecC Bs w [G.x1, G.x2] x) {l : List Nat} (hl : Ints w G.l (intsOf l)) (hlt : ∀ p ∈ l, p < x.packs.length) (hm : MidRec x) (hBs : ∀ k, Mine gt k ∨ Mine gb k → Bs ≤ k) (hBw : Bs ≤ w.heap.size) (hlen : l.length ≤ 1000) :
  Calls Tryz.prog 12 #[.pointer (some ⟨c, 0, none⟩)] w fun e w' => e = .returned (.tuple #[]) ∧ GrTo w gt gb c bt bb G (TB.choices (T, B) x l).1 (TB.choices (T, B) x l).2 w' := by
 have hTok : T.Ok := by obtain ⟨V, hV⟩ := H.tab; exact ⟨hV.lim, hV.len⟩
 have HP := Lib.hid (Places_gr H hl (by unfold intsOf; rw [List.length_map]; omega))
 have q0 : w.cell? ⟨c, 0, none⟩ = some G.x1 := by rw [cell_block H.blk]; rfl
 have H0 := Lib.hid H
 obtain ⟨v1, v2, e12, h1, -⟩ := hx
 simp only [List.cons.injEq, and_true] at e12
 obtain ⟨e1, -⟩ := e12
 obtain ⟨ao, cap, e2, -, -⟩ := h1.shape
 obtain ⟨n1, hn1⟩ : ∃ n, x.packs.length = n := ⟨_, rfl⟩
 rw [e1, e2, hn1] at q0
 rw [e2, hn1] at h1
 have R1 := Lib.hid h1
 have N1 := Lib.hid hn1
 have HM := Lib.hid hm
 have HTok := Lib.hid hTok
 have HBs := Lib.hid hBs
 have HLt : Hid (∀ p ∈ l, p < n1) := by rw [← hn1]; exact hlt
 have hn1000 : n1 ≤ 1000 := by rw [← hn1]; exact hm.packs
 obtain ⟨nl, hnl⟩ : ∃ n, l.length = n := ⟨_, rfl⟩
 rw [hnl] at hlen
 have HNl := Lib.hid hnl
 have HPl : Hid ((intsOf l).length = nl) := by unfold intsOf; rw [List.length_map]; exact hnl
 have hc : c < w.heap.size := lt_block H.blk
 -- the cell of the recipe, later on
 have HX : Hid (∀ W gt' gb', GrAt W gt' gb' c bt bb G T B ∨ True → Only (fun k => Mine gt k ∨ Mine gb k) w W → W.cell? ⟨c, 0, none⟩ = some (.slice ao n1 cap)) := fun W _ _ _ hW => by
  rw [World.cell?_of_block (w := w) (hW.block c hc (by rintro (h | h); exact h H0.out.tc; exact h H0.out.tc'))]
  exact q0
 clear H hl hlt hm hBs hTok h1 e1 e2 hn1 hnl q0
 go_enter Tryz.func12, Tryz.ntmps12
 go_wp2_with fail
 refine HP.out.mono ?_
 rintro e w1 ⟨vp, rfl, r1, r2, r3⟩
 have HI : Hid (Ints w1 vp (intsOf l)) := Ints.of_own r1 fun z hz => by
  obtain ⟨i, hi, rfl⟩ := List.mem_map.1 hz
  have := HLt.out i hi
  exact ⟨by omega, by omega⟩
 have H1 := Lib.hid (H0.out.only0 r3)
 have HO1 := Lib.hid r3
 have HNm : Hid (NotM gt gb vp (intsOf l)) := fun _ k hk => by
  obtain ⟨V, hV⟩ := H0.out.tab
  obtain ⟨U, hU⟩ := H0.out.bld
  have hk2 := r2 k (by obtain ⟨a2, c2, rfl, -, -⟩ := own_slice r1; cases a2 with | none => cases hk | some ad => exact hk)
  constructor
  ·unfold Mine; rw [hV.fresh k hk2]; simp
  ·unfold Mine; rw [hU.fresh k hk2]; simp
 obtain ⟨ap, cp, rfl, -, -⟩ := own_slice r1
 rw [HPl.out] at HI HNm ⊢
 have HG1 : Hid (GrTo w1 gt gb c bt bb G (TB.choices (T, B) x (l.take 0)).1 (TB.choices (T, B) x (l.take 0)).2 w1) := GrTo.refl H1.out
 clear r1 r2 r3 HP
 go_wp2_with fail
 go_loopw [15] (fun vi wr => ∃ i : Nat, vi = .int .i64 i ∧ i ≤ nl ∧ Hid (GrTo w1 gt gb c bt bb G (TB.choices (T, B) x (l.take i)).1 (TB.choices (T, B) x (l.take i)).2 wr)) (fun v _ => nl - (RowKit.intOf v).toNat)
 case atStart => exact ⟨0, rfl, Nat.zero_le _, HG1⟩
 case round =>
  clear HG1
  obtain ⟨i, rfl, hi, HR⟩ := hrel
  by_cases ci : i < nl
  ·obtain ⟨S, hS⟩ : ∃ S, TB.choices (T, B) x (l.take i) = S := ⟨_, rfl⟩
   have hSok : S.1.Ok := by rw [← hS]; exact TB.choices_ok HTok.out _ _
   rw [hS] at HR
   have HS := Lib.hid hS
   obtain ⟨p, hp⟩ : ∃ p, l[i]? = some p := ⟨_, List.getElem?_eq_getElem (by rw [HNl.out]; exact ci)⟩
   have HNx : Hid (TB.choices (T, B) x (l.take (i + 1)) = S.pack p (x.pack p)) := by rw [takeI_succ hp, TB.choices_snoc, hS]; exact rfl
   have hpn : p < n1 := HLt.out p (List.mem_of_getElem? hp)
   obtain ⟨gt1, gb1, HG, A1, A1', O1⟩ := HR.out
   have hI2 := HI.out.mine2 HNm.out O1
   obtain ⟨bI, offI, eI, hcell⟩ := hI2.cellA (i := i) (by rw [HPl.out]; exact ci)
   subst eI
   have hgp : (intsOf l).getD i 0 = (p : Int) := by unfold intsOf; rw [List.getD_eq_getElem?_getD, List.getElem?_map, hp]; rfl
   rw [hgp] at hcell
   have ewi : IntKind.i64.wrap ((i : Int) + 1) = (i : Int) + 1 := by rw [IntKind.wrap_i64]; omega
   have Ow : Only (fun k => Mine gt k ∨ Mine gb k) w wr := (HO1.out.mono fun _ f => f.elim).same O1
   have qx := HX.out wr gt1 gb1 (.inr trivial) Ow
   have hKp : Kp Bs w wr := Ow.mono fun k hk => HBs.out k hk
   have hr1 := R1.out.keep PackC.keep hKp
   rw [← N1.out] at hr1
   obtain ⟨b, off, eb, -, -⟩ := hr1.at (by have := N1.out; omega)
   subst eb
   have hpx : x.packs[p]? = some (x.pack p) := by
    unfold RecD.pack
    rw [List.getD_eq_getElem?_getD, List.getElem?_eq_getElem (by rw [N1.out]; exact hpn)]; rfl
   obtain ⟨cs, -, hrp, hCp⟩ := hr1.get hpx
   obtain ⟨pk, hpk⟩ : ∃ pk, x.pack p = pk := ⟨_, rfl⟩
   have hmem : pk ∈ x.packs := by rw [← hpk]; exact List.mem_of_getElem? hpx
   rw [hpk] at hCp HNx
   obtain ⟨o1, o2, o3, o4, o5, o6, c1, c2, c3, c4, c5, c6, rfl, -, -, -, b2, -, -, -, -⟩ := hCp.cells
   have HRp := Lib.hid hrp
   have hrl := HM.out.rels pk hmem
   have hvl := HM.out.vars pk hmem
   have HVl := Lib.hid (HM.out.vals pk hmem)
   obtain ⟨nr, hnr⟩ : ∃ n, pk.rels.length = n := ⟨_, rfl⟩
   obtain ⟨nv, hnv⟩ : ∃ n, pk.vars.length = n := ⟨_, rfl⟩
   rw [hnr] at HRp hrl
   rw [hnv] at HRp b2 hvl
   have HNr := Lib.hid hnr
   have HNv := Lib.hid hnv
   -- the world behind the copy of the package
   obtain ⟨wB, hwB⟩ : ∃ wB, wB = wr.alloc (.cells #[.string pk.name, .int .i64 pk.line, .slice o1 nr c1, .slice o2 nv c2, .slice o3 pk.provides.length c3, .slice o4 pk.deps.length c4, .slice o5 pk.cons.length c5, .slice o6 pk.files.length c6] 43) := ⟨_, rfl⟩
   have oB : Only (fun _ => False) wr wB := by rw [hwB]; exact (Only.refl _ _).alloc _
   have HGB := HG.only0 oB
   have hfr : (gt1 wr.heap.size).1 = 0 ∧ (gb1 wr.heap.size).1 = 0 := by
    obtain ⟨V, hV⟩ := HG.tab
    obtain ⟨U, hU⟩ := HG.bld
    exact ⟨hV.fresh _ (Nat.le_refl _), hU.fresh _ (Nat.le_refl _)⟩
   have HPk : Hid (∀ W, Only (fun k => Mine gt1 k ∨ Mine gb1 k) wB W → W.cell? ⟨wr.heap.size, 2, none⟩ = some (.slice o1 nr c1) ∧ W.cell? ⟨wr.heap.size, 3, none⟩ = some (.slice o2 nv c2)) := fun W hW => by
    have b0 : wB.heap[wr.heap.size]? = some (.cells #[.string pk.name, .int .i64 pk.line, .slice o1 nr c1, .slice o2 nv c2, .slice o3 pk.provides.length c3, .slice o4 pk.deps.length c4, .slice o5 pk.cons.length c5, .slice o6 pk.files.length c6] 43) := by rw [hwB]; exact heap_alloc_new wr _
    have b1 := only_block b0 hW (by rintro (h | h); exact h hfr.1; exact h hfr.2)
    exact ⟨by rw [cell_block b1]; rfl, by rw [cell_block b1]; rfl⟩
   have HMW : Hid (∀ W, Only (fun k => Mine gt1 k ∨ Mine gb1 k) wB W → Only (fun k => Mine gt k ∨ Mine gb k) w1 W) := fun W hW => (O1.same (oB.mono fun _ f => f.elim)).mine2 A1 A1' hW
   have HVr : Hid (∀ W, Only (fun k => Mine gt1 k ∨ Mine gb1 k) wB W → RowT 2 VarC Bs W (.slice o2 nv c2) pk.vars) := fun W hW => b2.keep VarC.keep (((oB.mono fun _ f => f.elim).trans (G := fun k => Mine gt1 k ∨ Mine gb1 k) hW fun k hk => by
    rcases Nat.lt_or_ge k wr.heap.size with hlt | hge
    ·left
     have hs1 := HO1.out.size
     rcases Nat.lt_or_ge k w1.heap.size with h2 | h2
     ·refine HBs.out k ?_
      unfold Mine at hk ⊢
      rwa [A1 k h2, A1' k h2] at hk
     ·omega
    ·exact .inr hge : Kp Bs wr W))
   have HFin : Hid (∀ W, GrTo wB gt1 gb1 c bt bb G (S.pack p pk).1 (S.pack p pk).2 W → GrTo w1 gt gb c bt bb G (TB.choices (T, B) x (l.take (i + 1))).1 (TB.choices (T, B) x (l.take (i + 1))).2 W) := fun W h => by
    rw [HNx.out]
    exact GrTo.trans A1 A1' (O1.same (oB.mono fun _ f => f.elim)) h
   have HRg : Hid (RowG wB gt1 gb1 c bt bb G S.1 S.2 wB nilS []) := RowG.start (GrTo.refl HGB)
   clear HX hgp hI2 hKp hr1 hpx hrp hCp hmem b2 hnr hnv HG A1 A1' O1 Ow HGB hfr oB hp hS HR hpk
   go_wp2_with (refine wpList_load_mid rfl 43 (.tmp 25) rfl b (off + p * 8) rfl _ _ HRp.out Tryz.underlying43 rfl (by kernel_rfl) ?_)
   rw [← hwB]
   clear hwB
   generalize wr = wo at *
   obtain ⟨T1, hT1⟩ : ∃ T1, (S.1.num (nodeA p)).1 = T1 := ⟨_, rfl⟩
   obtain ⟨node, hnode⟩ : ∃ z, (S.1.num (nodeA p)).2 = z := ⟨_, rfl⟩
   have hnok := Tab.num_ok hSok (nodeA p)
   rw [hT1, hnode] at hnok
   obtain ⟨hT1ok, hnb⟩ := hnok
   have HNod := Lib.hid (RowG.num HRg.out (x := nodeA p) ⟨by simp [nodeA], ⟨by simp only [nodeA]; omega, by simp only [nodeA]; omega⟩, zI, zI⟩ node hnode)
   rw [hT1] at HNod
   have HT1 := Lib.hid hT1
   have HNode := Lib.hid hnode
   refine HNod.out.mono ?_
   rintro e w2 ⟨rfl, h2⟩
   have HG2 : Hid (RowG wB gt1 gb1 c bt bb G (T1.nums (relAs p 0)).1 S.2 w2 nilS (T1.nums (relAs p 0)).2) := h2
   clear HNod h2 hT1 hnode HRg
   have hpk2 := (HPk.out w2 (by obtain ⟨_, _, _, _, _, O, _⟩ := HG2.out; exact O)).1
   go_wp2_with fail
   go_loopw [6, 34] (fun v6 vk wr => ∃ k : Nat, vk = .int .i64 k ∧ k ≤ nr ∧ Hid (RowG wB gt1 gb1 c bt bb G (T1.nums (relAs p k)).1 S.2 wr v6 (T1.nums (relAs p k)).2)) (fun _ v _ => nr - (RowKit.intOf v).toNat)
   case atStart => exact ⟨0, rfl, Nat.zero_le _, HG2⟩
   case round =>
    clear HG2 hpk2
    obtain ⟨k, rfl, hk, HRow⟩ := hrel
    by_cases ck : k < nr
    ·obtain ⟨T2, hT2⟩ : ∃ T2, (T1.nums (relAs p k)).1 = T2 := ⟨_, rfl⟩
     obtain ⟨zs, hzs⟩ : ∃ zs, (T1.nums (relAs p k)).2 = zs := ⟨_, rfl⟩
     have hzl : zs.length = k := by rw [← hzs, Tab.nums_len]; unfold relAs; simp
     obtain ⟨r, hr⟩ : ∃ r, (T2.num (relA p k)).2 = r := ⟨_, rfl⟩
     have hsn : T1.nums (relAs p (k + 1)) = ((T2.num (relA p k)).1, zs ++ [r]) := by rw [relAs_succ, Tab.nums_snoc, hT2, hzs, hr]
     rw [hT2, hzs] at HRow
     have HSn := Lib.hid hsn
     have HNum := Lib.hid (RowG.num HRow.out (x := relA p k) ⟨by simp [relA], ⟨by simp only [relA]; omega, by simp only [relA]; omega⟩, ⟨by simp only [relA]; omega, by simp only [relA]; omega⟩, zI⟩ r hr)
     obtain ⟨au, cu, hu, -, -⟩ : ∃ au cu, u6 = .slice au zs.length cu ∧ zs.length ≤ cu ∧ cu ≤ maxLen := by obtain ⟨_, _, _, _, _, _, R, _⟩ := HRow.out; exact own_slice R
     subst hu
     have ewk : IntKind.i64.wrap ((k : Int) + 1) = (k : Int) + 1 := by rw [IntKind.wrap_i64]; omega
     have hzk : zs.length ≤ 1000 := by omega
     clear hT2 hzs hsn hr hzl
     go_wp2_with fail
     refine HNum.out.mono ?_
     rintro e w5 ⟨rfl, h5⟩
     have H5 := Lib.hid h5
     have hown : w5.ownsRow 0 3 1 (.slice au zs.length cu) zs.length (zs.map cI) := by obtain ⟨_, _, _, _, _, _, R, _⟩ := h5; exact R
     have HOwn := Lib.hid hown
     clear h5 hown HNum
     go_wp2_with (at_builtin; go_must (refine wpA1 (u := .int .i64 r) slInt rfl (.tmp 37) (.tmp 43) rfl rfl rfl (cell_new0 _ _ _) rfl (own_only HOwn.out ((Only.refl (fun _ => False) _).alloc _) (fun _ _ f => f)) (by omega) (by decide) ?_))
     intro v' w6 s1 s2 s3
     have HRow2 : Hid (RowG wB gt1 gb1 c bt bb G (T1.nums (relAs p (k + 1))).1 S.2 w6 v' (T1.nums (relAs p (k + 1))).2) := by
      rw [HSn.out]
      exact RowG.app H5.out ((Only.refl (fun _ => False) w5).alloc _) s1 s2 s3
     obtain ⟨g6, c6', rfl, -, -, -⟩ := s3
     clear s1 s2 H5 HOwn HRow
     go_wp2_with fail
     go_roundw
     case rel => exact ⟨k + 1, by first | rfl | go_num, by omega, HRow2⟩
     case measure => simp [RowKit.intOf] <;> omega
    ·obtain rfl : nr = k := by omega
     clear hk ck
     obtain ⟨zok, zb⟩ := Tab.nums_ok (relAs p nr) hT1ok
     have zl : (T1.nums (relAs p nr)).2.length = nr := by rw [Tab.nums_len]; unfold relAs; simp
     have HOne := Lib.hid (RowG.one HRow.out zb (by rw [zl]; omega) node hnb)
     have HE0 : Hid ((TB.row (T1, S.2) node (relAs p nr)) = ((T1.nums (relAs p nr)).1, S.2.one node (T1.nums (relAs p nr)).2)) := rfl
     obtain ⟨au, cu, hu, -, -⟩ : ∃ au cu, u6 = .slice au nr cu ∧ nr ≤ cu ∧ cu ≤ maxLen := by obtain ⟨_, _, _, _, _, _, R, _⟩ := HRow.out; rw [zl] at R; exact own_slice R
     subst hu
     clear zb
     go_wp2_with fail
     refine HOne.out.mono ?_
     rintro e w3 ⟨rfl, h3⟩
     obtain ⟨S1, hS1⟩ : ∃ S1, TB.row (T1, S.2) node (relAs p nr) = S1 := ⟨_, rfl⟩
     have hS1ok : S1.1.Ok := by rw [← hS1]; exact zok
     have HG3 : Hid (GrTo wB gt1 gb1 c bt bb G (S1.vars node p pk.vars 0).1 (S1.vars node p pk.vars 0).2 w3) := by rw [← hS1]; exact h3
     have HFin2 : Hid (∀ W, GrTo wB gt1 gb1 c bt bb G (S1.vars node p pk.vars nv).1 (S1.vars node p pk.vars nv).2 W → GrTo w1 gt gb c bt bb G (TB.choices (T, B) x (l.take (i + 1))).1 (TB.choices (T, B) x (l.take (i + 1))).2 W) := fun W h => by
      refine HFin.out W ?_
      unfold TB.pack
      rw [HT1.out, HNode.out, HNr.out, HNv.out, hS1]
      exact h
     have hpk3 := (HPk.out w3 (by obtain ⟨_, _, _, _, _, O⟩ := HG3.out; exact O)).2
     clear h3 HOne HE0 HRow zl zok hS1 HFin HNx
     go_wp2_with fail
     generalize w3 = wq at *
     go_loopw [53] (fun vj wr => ∃ j : Nat, vj = .int .i64 j ∧ j ≤ nv ∧ Hid (GrTo wB gt1 gb1 c bt bb G (S1.vars node p pk.vars j).1 (S1.vars node p pk.vars j).2 wr)) (fun v _ => nv - (RowKit.intOf v).toNat)
     case atStart => exact ⟨0, rfl, Nat.zero_le _, HG3⟩
     case round =>
      clear HG3 hpk3
      obtain ⟨j, rfl, hj, HG⟩ := hrel
      by_cases cj : j < nv
      ·obtain ⟨S2, hS2⟩ : ∃ S2, S1.vars node p pk.vars j = S2 := ⟨_, rfl⟩
       have hS2ok : S2.1.Ok := by rw [← hS2]; exact TB.vars_ok hS1ok _ _ _ _
       rw [hS2] at HG
       have HV := HVr.out wr (by obtain ⟨_, _, _, _, _, O⟩ := HG.out; exact O)
       rw [← HNv.out] at HV
       obtain ⟨b2, off2, e2, -, -⟩ := HV.at (by have := HNv.out; omega)
       subst e2
       obtain ⟨vd, hvd⟩ : ∃ vd, pk.vars[j]? = some vd := ⟨_, List.getElem?_eq_getElem (by rw [HNv.out]; exact cj)⟩
       obtain ⟨cs2, -, hr2, hC2⟩ := HV.get hvd
       obtain ⟨vv, rfl, -, hvv⟩ := hC2
       obtain ⟨av, cv, rfl, -, -⟩ := hvv.shape
       have hvn : vd.values.length ≤ 1000 := HVl.out vd (List.mem_of_getElem? hvd)
       obtain ⟨nk, hnk⟩ : ∃ n, vd.values.length = n := ⟨_, rfl⟩
       rw [hnk] at hr2 hvn
       have HR2 := Lib.hid hr2
       have hgd : pk.vars.getD j default = vd := by rw [List.getD_eq_getElem?_getD, hvd]; rfl
       have HNx : Hid (S1.vars node p pk.vars (j + 1) = S2.row node (valAs p j nk)) := by show TB.row _ _ _ = _; rw [hS2, hgd, hnk]
       have ewj : IntKind.i64.wrap ((j : Int) + 1) = (j : Int) + 1 := by rw [IntKind.wrap_i64]; omega
       obtain ⟨wV, hwV⟩ : ∃ wV, wV = wr.alloc (.cells #[.string vd.name, .slice av nk cv] 99) := ⟨_, rfl⟩
       have oV : Only (fun _ => False) wr wV := by rw [hwV]; exact (Only.refl _ _).alloc _
       obtain ⟨gt2, gb2, HGr, A2, A2', O2⟩ := HG.out
       have HGV := HGr.only0 oV
       have hfr2 : (gt2 wr.heap.size).1 = 0 ∧ (gb2 wr.heap.size).1 = 0 := by
        obtain ⟨V, hV⟩ := HGr.tab
        obtain ⟨U, hU⟩ := HGr.bld
        exact ⟨hV.fresh _ (Nat.le_refl _), hU.fresh _ (Nat.le_refl _)⟩
       have hvc : wV.cell? ⟨wr.heap.size, 1, none⟩ = some (.slice av nk cv) := by
        have b0 : wV.heap[wr.heap.size]? = some (.cells #[.string vd.name, .slice av nk cv] 99) := by rw [hwV]; exact heap_alloc_new wr _
        rw [cell_block b0]; rfl
       have HFin3 : Hid (∀ W, GrTo wV gt2 gb2 c bt bb G (S2.row node (valAs p j nk)).1 (S2.row node (valAs p j nk)).2 W → GrTo wB gt1 gb1 c bt bb G (S1.vars node p pk.vars (j + 1)).1 (S1.vars node p pk.vars (j + 1)).2 W) := fun W h => by
        rw [HNx.out]
        exact GrTo.trans A2 A2' (O2.same (oV.mono fun _ f => f.elim)) h
       have HRg : Hid (RowG wV gt2 gb2 c bt bb G (S2.1.nums (valAs p j 0)).1 S2.2 wV nilS (S2.1.nums (valAs p j 0)).2) := RowG.start (GrTo.refl HGV)
       clear HV hvd hr2 hvv hnk hgd HNx oV HGr A2 A2' O2 HGV hfr2 hS2 HG
       go_wp2_with (refine wpList_load_mid rfl 99 (.tmp 56) rfl b2 (off2 + j * 2) rfl _ _ HR2.out Tryz.underlying99 rfl (by kernel_rfl) ?_)
       rw [← hwV]
       clear hwV hvc
       generalize wr = wm at *
       go_loopw [10, 61] (fun v6 vk wr => ∃ k : Nat, vk = .int .i64 k ∧ k ≤ nk ∧ Hid (RowG wV gt2 gb2 c bt bb G (S2.1.nums (valAs p j k)).1 S2.2 wr v6 (S2.1.nums (valAs p j k)).2)) (fun _ v _ => nk - (RowKit.intOf v).toNat)
       case atStart => exact ⟨0, rfl, Nat.zero_le _, HRg⟩
       case round =>
        clear HRg
        obtain ⟨k, rfl, hk, HRow⟩ := hrel
        by_cases ck : k < nk
        ·obtain ⟨T2, hT2⟩ : ∃ T2, (S2.1.nums (valAs p j k)).1 = T2 := ⟨_, rfl⟩
         obtain ⟨zs, hzs⟩ : ∃ zs, (S2.1.nums (valAs p j k)).2 = zs := ⟨_, rfl⟩
         have hzl : zs.length = k := by rw [← hzs, Tab.nums_len]; unfold valAs; simp
         obtain ⟨r, hr⟩ : ∃ r, (T2.num (valA p j k)).2 = r := ⟨_, rfl⟩
         have hsn : S2.1.nums (valAs p j (k + 1)) = ((T2.num (valA p j k)).1, zs ++ [r]) := by rw [valAs_succ, Tab.nums_snoc, hT2, hzs, hr]
         rw [hT2, hzs] at HRow
         have HSn := Lib.hid hsn
         have HNum := Lib.hid (RowG.num HRow.out (x := valA p j k) ⟨by simp [valA], ⟨by simp only [valA]; omega, by simp only [valA]; omega⟩, ⟨by simp only [valA]; omega, by simp only [valA]; omega⟩, ⟨by simp only [valA]; omega, by simp only [valA]; omega⟩⟩ r hr)
         obtain ⟨au, cu, hu, -, -⟩ : ∃ au cu, u10 = .slice au zs.length cu ∧ zs.length ≤ cu ∧ cu ≤ maxLen := by obtain ⟨_, _, _, _, _, _, R, _⟩ := HRow.out; exact own_slice R
         subst hu
         have ewk : IntKind.i64.wrap ((k : Int) + 1) = (k : Int) + 1 := by rw [IntKind.wrap_i64]; omega
         have hzk : zs.length ≤ 1000 := by omega
         clear hT2 hzs hsn hr hzl
         go_wp2_with fail
         refine HNum.out.mono ?_
         rintro e w5 ⟨rfl, h5⟩
         have H5 := Lib.hid h5
         have hown : w5.ownsRow 0 3 1 (.slice au zs.length cu) zs.length (zs.map cI) := by obtain ⟨_, _, _, _, _, _, R, _⟩ := h5; exact R
         have HOwn := Lib.hid hown
         clear h5 hown HNum
         go_wp2_with (at_builtin; go_must (refine wpA1 (u := .int .i64 r) slInt rfl (.tmp 64) (.tmp 71) rfl rfl rfl (cell_new0 _ _ _) rfl (own_only HOwn.out ((Only.refl (fun _ => False) _).alloc _) (fun _ _ f => f)) (by omega) (by decide) ?_))
         intro v' w6 s1 s2 s3
         have HRow2 : Hid (RowG wV gt2 gb2 c bt bb G (S2.1.nums (valAs p j (k + 1))).1 S2.2 w6 v' (S2.1.nums (valAs p j (k + 1))).2) := by
          rw [HSn.out]
          exact RowG.app H5.out ((Only.refl (fun _ => False) w5).alloc _) s1 s2 s3
         obtain ⟨g6, c6', rfl, -, -, -⟩ := s3
         clear s1 s2 H5 HOwn HRow
         go_wp2_with fail
         go_roundw
         case rel => exact ⟨k + 1, by first | rfl | go_num, by omega, HRow2⟩
         case measure => simp [RowKit.intOf] <;> omega
        ·obtain rfl : nk = k := by omega
         clear hk ck
         obtain ⟨-, zb⟩ := Tab.nums_ok (valAs p j nk) hS2ok
         have zl : (S2.1.nums (valAs p j nk)).2.length = nk := by rw [Tab.nums_len]; unfold valAs; simp
         have HOne := Lib.hid (RowG.one HRow.out zb (by rw [zl]; omega) node hnb)
         obtain ⟨au, cu, hu, -, -⟩ : ∃ au cu, u10 = .slice au nk cu ∧ nk ≤ cu ∧ cu ≤ maxLen := by obtain ⟨_, _, _, _, _, _, R, _⟩ := HRow.out; rw [zl] at R; exact own_slice R
         subst hu
         clear zb zl
         go_wp2_with fail
         refine HOne.out.mono ?_
         rintro e w3 ⟨rfl, h3⟩
         have HNext := Lib.hid (HFin3.out w3 h3)
         clear h3 HOne HRow
         go_wp2_with fail
         go_roundw
         case rel => exact ⟨j + 1, by first | rfl | go_num, by omega, HNext⟩
         case measure => simp [RowKit.intOf] <;> omega
      ·obtain rfl : nv = j := by omega
       have HEnd := Lib.hid (HFin2.out wr HG.out)
       go_wp2_with fail
       go_roundw
       case rel => exact ⟨i + 1, by first | rfl | go_num, by omega, HEnd⟩
       case measure => simp [RowKit.intOf] <;> omega
  ·obtain rfl : nl = i := by omega
   go_wp2_with fail
   go_end0
   refine ⟨rfl, ?_⟩
   have := HR.out
   rw [List.take_of_length_le (Nat.le_of_eq HNl.out)] at this
   exact GrTo.after HO1.out this
end
end Go.Proofs.YtbapkcnfacklaaaGreat

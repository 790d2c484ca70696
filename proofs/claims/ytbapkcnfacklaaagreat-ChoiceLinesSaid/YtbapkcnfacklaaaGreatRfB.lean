/- What may be needed, by the document: Targets, asked. Printed by gen_rfb.py. -/
import Derived.Test.YtbapkcnfacklaaaGreatRfS
import Derived.Test.YtbapkcnfacklaaaGreatRowB
import Derived.Test.YtbapkcnfacklaaaGreatNd6
import Derived.Test.YtbapkcnfacklaaaGreatRf9
import Derived.Test.YtbapkcnfacklaaaGreatRegs
import Derived.Deep.MidRow
import Derived.BigFrame
import Derived.Carry
set_option linter.unusedVariables false
namespace Go.Proofs.YtbapkcnfacklaaaGreat
open Go.RowKit
section
variable {w w' : World} {B : Nat}
theorem contains_ints {l : List Nat} {i : Nat} : (intsOf l).contains (i : Int) = decide (i ∈ l) := by
 rw [Bool.eq_iff_iff, List.contains_iff_mem, decide_eq_true_eq]
 unfold intsOf
 rw [List.mem_map]
 constructor
 ·rintro ⟨j, hj, e⟩
  obtain rfl : j = i := by omega
  exact hj
 ·exact fun h => ⟨i, h, rfl⟩
def InB (w : World) (g m : Nat) (f : List Bool) : Prop := f.length = m ∧ w.ownsRow 0 4 1 (.slice (some ⟨g, 0, none⟩) m m) m (f.map Value.bool)
theorem InB.only0 {g m : Nat} {f : List Bool} (h : InB w g m f) (ho : Only (fun _ => False) w w') : InB w' g m f := ⟨h.1, own_only h.2 ho (fun _ _ f => f)⟩
theorem InB.cell {g m : Nat} {f : List Bool} (h : InB w g m f) {k : Nat} (hk : k < m) : w.cell? ⟨g, k, none⟩ = some (.bool (f.getD k false)) := by
 rw [h.2.cellAt k (by omega)]
 rw [List.getElem?_map, List.getD_eq_getElem?_getD, List.getElem?_eq_getElem (by rw [h.1]; exact hk)]
 rfl
theorem askN_snoc (x : RecD) (l : List Str) (s : Str) (i : Nat) : askN x (l ++ [s]) i = (askN x l i || decide (i ∈ x.targets s)) := by
 unfold askN; simp [List.any_append]
set_option maxRecDepth 100000 in
set_option maxHeartbeats 4000000 in
theorem Targets10_any {csx : List Value} {x : RecD} (hx : RecC B w csx x) (hlen : x.packs.length ≤ 1000000) (s : Str) :
  Calls Tryz.prog 56 #[.agg csx.toArray, .string s] w fun e w' => ∃ v, e = .returned v ∧ Ints w' v (intsOf (x.targets s)) ∧ Only (fun _ => False) w w' := by
 have HH_x := Lib.hid hx
 obtain ⟨u1, u2, rfl, r1, r2⟩ := hx
 obtain ⟨a_x_packs, c_x_packs, rfl, g_x_packs, h_x_packs⟩ := r1.shape
 obtain ⟨n_x_packs, e1⟩ : ∃ n, x.packs.length = n := ⟨_, rfl⟩
 have N_x_packs := Lib.hid e1
 obtain ⟨a_x_prefs, c_x_prefs, rfl, g_x_prefs, h_x_prefs⟩ := r2.shape
 obtain ⟨n_x_prefs, e2⟩ : ∃ n, x.prefs.length = n := ⟨_, rfl⟩
 have N_x_prefs := Lib.hid e2
 rw [e1, e2] at HH_x
 rw [e1] at r1 g_x_packs
 have RR_x_packs := Lib.hid r1
 rw [e2] at r2 g_x_prefs
 have RR_x_prefs := Lib.hid r2
 rw [e1, e2]
 clear e1 e2 r1 r2
 obtain ⟨W0, hW0⟩ : ∃ W0, W0 = (w.alloc (.cells #[.slice a_x_packs n_x_packs c_x_packs, .slice a_x_prefs n_x_prefs c_x_prefs] 25)) := ⟨_, rfl⟩
 have HOB : Hid (Only (fun _ => False) w W0) := by rw [hW0]; exact (Only.refl _ _).alloc _
 have HSz : Hid (W0.heap.size = w.heap.size + 1) := by rw [hW0]; simp [Hid]
 have HBox : Hid (∀ W, Only (fun _ => False) W0 W → W.cell? ⟨w.heap.size, 0, none⟩ = some (.slice a_x_packs n_x_packs c_x_packs) ∧ W.cell? ⟨w.heap.size, 1, none⟩ = some (.slice a_x_prefs n_x_prefs c_x_prefs)) := fun W ho => by
  have b0 : W0.heap[w.heap.size]? = some (.cells #[.slice a_x_packs n_x_packs c_x_packs, .slice a_x_prefs n_x_prefs c_x_prefs] 25) := by rw [hW0]; exact alloc_at rfl
  have d0 := only_block b0 ho (fun f => f)
  exact ⟨by rw [cell_block d0]; rfl, by rw [cell_block d0]; rfl⟩
 have HK_x : Hid (∀ W, Only (fun _ => False) W0 W → RecC B W [.slice a_x_packs n_x_packs c_x_packs, .slice a_x_prefs n_x_prefs c_x_prefs] x) := fun W ho => RecC.keep HH_x.out (Kp.of0 (HOB.out.same ho) : Kp B w W)
 have HR_x_packs : Hid (∀ W, Only (fun _ => False) W0 W → RowT 8 PackC B W (.slice a_x_packs n_x_packs c_x_packs) x.packs) := fun W ho => RR_x_packs.out.keep PackC.keep (Kp.of0 (HOB.out.same ho))
 clear RR_x_packs
 have HR_x_prefs : Hid (∀ W, Only (fun _ => False) W0 W → RowT 3 PrefC B W (.slice a_x_prefs n_x_prefs c_x_prefs) x.prefs) := fun W ho => RR_x_prefs.out.keep PrefC.keep (Kp.of0 (HOB.out.same ho))
 clear RR_x_prefs
 clear HH_x
 rw [N_x_packs.out] at hlen
 obtain ⟨f, hf⟩ : ∃ f, x.find s = f := ⟨_, rfl⟩
 have hflt := x.find_lt s
 rw [hf, N_x_packs.out] at hflt
 have HT : Hid (x.targets s = if 0 ≤ f then [f.toNat] else x.provs s) := by unfold RecD.targets; rw [hf]; exact rfl
 have HF := Lib.hid (Find9_any (HK_x.out W0 (Only.refl _ _)) s)
 rw [hf] at HF
 clear hf
 obtain ⟨k0, k1⟩ := HBox.out W0 (Only.refl _ _)
 rw [hW0] at k0 k1
 go_enter Tryz.func56, Tryz.ntmps56
 go_wp2_with fail
 rw [← hW0] at k0 k1 ⊢
 clear hW0
 refine HF.out.mono ?_
 rintro e w1 ⟨rfl, O1⟩
 have HO1 := Lib.hid O1
 clear O1 HF k0 k1
 obtain ⟨k0, k1⟩ := HBox.out w1 HO1.out
 by_cases hf0 : 0 ≤ f
 ·go_wp2_with fail
  go_ret
  refine ⟨_, rfl, ?_, HOB.out.same (HO1.out.alloc _)⟩
  rw [HT.out, if_pos hf0]
  refine ints_of_nats ?_ (fun i hi => by simp at hi; omega)
  have := World.ownsRow_lit (base := 0) (e := 3) (size := 1) w1 #[.int .i64 f] 1 (Nat.zero_le _) (by unfold maxLen; omega) (by simp)
  simpa [natsV, Int.toNat_of_nonneg hf0] using this
 ·have HPv := Lib.hid (Providers9_any (HK_x.out w1 HO1.out) (by rw [N_x_packs.out]; exact hlen) s)
  have hT2 : x.targets s = x.provs s := by rw [HT.out, if_neg hf0]
  rw [← hT2] at HPv
  clear hT2
  go_wp2_with fail
  refine HPv.out.mono ?_
  rintro e w2 ⟨v, rfl, r1, r2, r3⟩
  have HR := Lib.hid (And.intro r1 r3)
  obtain ⟨av, cv, rfl, -, -⟩ := own_slice r1
  clear r1 r2 r3 HPv
  go_wp2_with fail
  go_ret
  refine ⟨_, rfl, ints_of_nats HR.out.1 (fun i hi => ?_), HOB.out.same (HO1.out.same HR.out.2)⟩
  have := RecD.targets_lt hi
  rw [N_x_packs.out] at this
  omega
set_option maxRecDepth 100000 in
set_option maxHeartbeats 4000000 in
theorem asked_any {csx : List Value} {x : RecD} (hx : RecC B w csx x) {csq : List Value} {q : ReqD} (hq : ReqC B w csq q) (hlen : x.packs.length ≤ 1000000) {g : Nat} {f : List Bool} (hin : InB w g x.packs.length f) (i : Nat) :
  Calls Tryz.prog 38 #[.agg csx.toArray, .agg csq.toArray, .slice (some ⟨g, 0, none⟩) x.packs.length x.packs.length, .int .i64 (i : Int)] w fun e w' => e = .returned (.bool (askedD x q.names f i)) ∧ Only (fun _ => False) w w' := by
 have HH_x := Lib.hid hx
 obtain ⟨u1, u2, rfl, r1, r2⟩ := hx
 obtain ⟨a_x_packs, c_x_packs, rfl, g_x_packs, h_x_packs⟩ := r1.shape
 obtain ⟨n_x_packs, e1⟩ : ∃ n, x.packs.length = n := ⟨_, rfl⟩
 have N_x_packs := Lib.hid e1
 obtain ⟨a_x_prefs, c_x_prefs, rfl, g_x_prefs, h_x_prefs⟩ := r2.shape
 obtain ⟨n_x_prefs, e2⟩ : ∃ n, x.prefs.length = n := ⟨_, rfl⟩
 have N_x_prefs := Lib.hid e2
 rw [e1, e2] at HH_x
 rw [e1] at r1 g_x_packs
 have RR_x_packs := Lib.hid r1
 rw [e2] at r2 g_x_prefs
 have RR_x_prefs := Lib.hid r2
 rw [e1, e2]
 clear e1 e2 r1 r2
 have HH_q := Lib.hid hq
 obtain ⟨u1, rfl, r1⟩ := hq
 obtain ⟨a_q_roots, c_q_roots, rfl, g_q_roots, h_q_roots⟩ := r1.shape
 obtain ⟨n_q_roots, e1⟩ : ∃ n, q.roots.length = n := ⟨_, rfl⟩
 have N_q_roots := Lib.hid e1
 rw [e1] at HH_q
 rw [e1] at r1 g_q_roots
 have RR_q_roots := Lib.hid r1
 rw [e1]
 clear e1 r1
 obtain ⟨W0, hW0⟩ : ∃ W0, W0 = ((w.alloc (.cells #[.slice a_x_packs n_x_packs c_x_packs, .slice a_x_prefs n_x_prefs c_x_prefs] 25)).alloc (.cells #[.slice a_q_roots n_q_roots c_q_roots] 28)) := ⟨_, rfl⟩
 have HOB : Hid (Only (fun _ => False) w W0) := by rw [hW0]; exact ((Only.refl _ _).alloc _).alloc _
 have HSz : Hid (W0.heap.size = w.heap.size + 2) := by rw [hW0]; simp [Hid]
 have HBox : Hid (∀ W, Only (fun _ => False) W0 W → W.cell? ⟨w.heap.size, 0, none⟩ = some (.slice a_x_packs n_x_packs c_x_packs) ∧ W.cell? ⟨w.heap.size, 1, none⟩ = some (.slice a_x_prefs n_x_prefs c_x_prefs) ∧ W.cell? ⟨w.heap.size + 1, 0, none⟩ = some (.slice a_q_roots n_q_roots c_q_roots)) := fun W ho => by
  have b0 : W0.heap[w.heap.size]? = some (.cells #[.slice a_x_packs n_x_packs c_x_packs, .slice a_x_prefs n_x_prefs c_x_prefs] 25) := by rw [hW0]; exact alloc_block (alloc_at rfl) _
  have d0 := only_block b0 ho (fun f => f)
  have b1 : W0.heap[w.heap.size + 1]? = some (.cells #[.slice a_q_roots n_q_roots c_q_roots] 28) := by rw [hW0]; exact alloc_at (by simp)
  have d1 := only_block b1 ho (fun f => f)
  exact ⟨by rw [cell_block d0]; rfl, by rw [cell_block d0]; rfl, by rw [cell_block d1]; rfl⟩
 have HK_x : Hid (∀ W, Only (fun _ => False) W0 W → RecC B W [.slice a_x_packs n_x_packs c_x_packs, .slice a_x_prefs n_x_prefs c_x_prefs] x) := fun W ho => RecC.keep HH_x.out (Kp.of0 (HOB.out.same ho) : Kp B w W)
 have HR_x_packs : Hid (∀ W, Only (fun _ => False) W0 W → RowT 8 PackC B W (.slice a_x_packs n_x_packs c_x_packs) x.packs) := fun W ho => RR_x_packs.out.keep PackC.keep (Kp.of0 (HOB.out.same ho))
 clear RR_x_packs
 have HR_x_prefs : Hid (∀ W, Only (fun _ => False) W0 W → RowT 3 PrefC B W (.slice a_x_prefs n_x_prefs c_x_prefs) x.prefs) := fun W ho => RR_x_prefs.out.keep PrefC.keep (Kp.of0 (HOB.out.same ho))
 clear RR_x_prefs
 clear HH_x
 have HK_q : Hid (∀ W, Only (fun _ => False) W0 W → ReqC B W [.slice a_q_roots n_q_roots c_q_roots] q) := fun W ho => ReqC.keep HH_q.out (Kp.of0 (HOB.out.same ho) : Kp B w W)
 have HR_q_roots : Hid (∀ W, Only (fun _ => False) W0 W → RowT 4 RootC B W (.slice a_q_roots n_q_roots c_q_roots) q.roots) := fun W ho => RR_q_roots.out.keep RootC.keep (Kp.of0 (HOB.out.same ho))
 clear RR_q_roots
 clear HH_q
 rw [N_x_packs.out] at hlen hin
 obtain ⟨r, hr⟩ : ∃ r, askedD x q.names f i = r := ⟨_, rfl⟩
 rw [hr]
 have HRes := Lib.hid hr
 have HIn : Hid (∀ W, Only (fun _ => False) W0 W → InB W g n_x_packs f) := fun W hW => hin.only0 (HOB.out.same hW)
 clear hr hin
 obtain ⟨k0, k1, k2⟩ := HBox.out W0 (Only.refl _ _)
 rw [hW0] at k0 k1 k2
 go_enter Tryz.func38, Tryz.ntmps38
 go_wp2_with fail
 rw [← hW0]
 clear hW0 k0 k1 k2
 have HOC : Hid (Only (fun _ => False) W0 W0) := Only.refl _ _
 go_loopw [15] (fun vk wrk => Hid (Only (fun _ => False) W0 wrk) ∧ ∃ k : Nat, vk = .int .i64 k ∧ k ≤ n_q_roots ∧ Hid (askN x (q.names.take k) i = false)) (fun v _ => n_q_roots - (RowKit.intOf v).toNat)
 case atStart => exact ⟨HOC, 0, rfl, Nat.zero_le _, show Hid _ from rfl⟩
 case round =>
  obtain ⟨wrk, rfl⟩ : ∃ W, W = wr := ⟨_, rfl⟩
  clear HOC
  obtain ⟨HOk, k, rfl, hk, HZ⟩ := hrel
  obtain ⟨k0, k1, k2⟩ := HBox.out wrk HOk.out
  by_cases ck : k < n_q_roots
  ·have ewi : IntKind.i64.wrap ((k : Int) + 1) = (k : Int) + 1 := by rw [IntKind.wrap_i64]; omega
   obtain ⟨yy, hxy⟩ : ∃ y, q.roots[k]? = some y := ⟨_, List.getElem?_eq_getElem (by rw [N_q_roots.out]; omega)⟩
   obtain ⟨bky, offy, ay1, ny1, cy1, ay2, ny2, cy2, hey, N0y1, N0y2, oky1, iny1, HE0y⟩ := RootC_at (HR_q_roots.out W0 (Only.refl _ _)) hxy
   first
    | subst hey
    | (simp only [Option.some.injEq, Addr.mk.injEq, and_true] at hey; obtain ⟨rfl, rfl⟩ := hey)
   have Ny1 := Lib.hid N0y1
   have Ny2 := Lib.hid N0y2
   have HEy := Lib.hid HE0y
   have HXy := Lib.hid hxy
   clear HE0y hxy N0y1 N0y2
   have HRy1 : Hid (∀ W, Only (fun _ => False) W0 W → RowT 2 SpanC B W (.slice ay1 ny1 cy1) yy.spec.spans) := fun W ho => (HEy.out W ho).2.1
   have HRy2 : Hid (∀ W, Only (fun _ => False) W0 W → RowT 2 SetC B W (.slice ay2 ny2 cy2) yy.spec.sets) := fun W ho => (HEy.out W ho).2.2.1
   have HCy : Hid (∀ W, Only (fun _ => False) W0 W → RootC B W [.string yy.spec.name, .slice ay1 ny1 cy1, .slice ay2 ny2 cy2, .int .i64 yy.line] yy) := fun W ho => (HEy.out W ho).2.2.2
   obtain ⟨bb, hbb⟩ : ∃ b, decide (i ∈ x.targets yy.spec.name) = b := ⟨_, rfl⟩
   have HTg : Hid (∀ W, Only (fun _ => False) W0 W → Calls Tryz.prog 56 #[.agg #[.slice a_x_packs n_x_packs c_x_packs, .slice a_x_prefs n_x_prefs c_x_prefs], .string yy.spec.name] W fun e w' => ∃ v, e = .returned v ∧ Ints w' v (intsOf (x.targets yy.spec.name)) ∧ Only (fun _ => False) W w') := fun W hW => Targets10_any (HK_x.out W hW) (by rw [N_x_packs.out]; exact hlen) _
   have HHs : Hid (∀ W v, Ints W v (intsOf (x.targets yy.spec.name)) → Calls Tryz.prog 24 #[v, .int .i64 (i : Int)] W fun e w' => e = .returned (.bool bb) ∧ Only (fun _ => False) W w') := fun W v hv => by
    rw [← hbb, ← contains_ints]
    exact Has_any hv _
   have HBb := Lib.hid hbb
   clear hbb
   go_wp2_with fail
   clear k0 k1 k2
   refine wp_region_G (n := 11) (E := fun _ => false) (S := fun W => Only (fun _ => False) W0 W) (by kernel_rfl) rfl (by exact (HOk.out).drew) (fun hHeld => ?_)
   refine tqK (i := 0) (v := ?_) rfl ?_ ?_
   rotate_left
   ·(intro w hSw; obtain ⟨k0, k1, k2⟩ := HBox.out w hSw; have hry := (HEy.out w hSw).1; have gy0 := hry 0 _ rfl; rw [Nat.add_zero] at gy0; clear hry; go_simp <;> (try with_reducible rfl))
   try simp only [Act.put, zq1, zq3, zq4, zq5, zq6]
   refine tqW (i := 1) (v := ?_) rfl (.inr (by assumption)) ?_ ?_
   rotate_left
   ·(intro w; go_simp <;> (try with_reducible rfl))
   try simp only [Act.put, zq1, zq2, zq3, zq4, zq5, zq6]
   refine tqK (i := 2) (v := ?_) rfl ?_ ?_
   rotate_left
   ·(intro w hSw; obtain ⟨k0, k1, k2⟩ := HBox.out w hSw; have hry := (HEy.out w hSw).1; have gy0 := hry 0 _ rfl; rw [Nat.add_zero] at gy0; clear hry; go_simp <;> (try with_reducible rfl))
   try simp only [Act.put, zq1, zq2, zq3, zq4, zq5, zq6]
   refine tqW (i := 3) (v := ?_) rfl (.inr (by assumption)) ?_ ?_
   rotate_left
   ·(intro w; go_simp <;> (try with_reducible rfl))
   try simp only [Act.put, zq1, zq2, zq3, zq4, zq5, zq6]
   refine tqW (i := 4) (v := ?_) rfl (.inr (by assumption)) ?_ ?_
   rotate_left
   ·(intro w; go_simp <;> (try with_reducible rfl))
   try simp only [Act.put, zq1, zq2, zq3, zq4, zq5, zq6]
   refine tqW (i := 5) (v := ?_) rfl (.inr (by assumption)) ?_ ?_
   rotate_left
   ·(intro w; go_simp <;> (try with_reducible rfl))
   try simp only [Act.put, zq1, zq2, zq3, zq4, zq5, zq6]
   refine tqW (i := 6) (v := ?_) rfl (.inr (by assumption)) ?_ ?_
   rotate_left
   ·(intro w; go_simp <;> (try with_reducible rfl))
   try simp only [Act.put, zq1, zq2, zq3, zq4, zq5, zq6]
   refine tqK (i := 7) (v := ?_) rfl ?_ ?_
   rotate_left
   ·(intro w hSw; obtain ⟨k0, k1, k2⟩ := HBox.out w hSw; have hry := (HEy.out w hSw).1; have gy0 := hry 0 _ rfl; rw [Nat.add_zero] at gy0; clear hry; go_simp <;> (try with_reducible rfl))
   try simp only [Act.put, zq1, zq2, zq3, zq4, zq5, zq6]
   refine tqW (i := 9) (v := ?_) rfl (.inr (by assumption)) ?_ ?_
   rotate_left
   ·(intro w; go_simp <;> (try with_reducible rfl))
   try simp only [Act.put, zq1, zq2, zq3, zq4, zq5, zq6]
   refine wpAnyG_ready (rs := [8]) (by kernel_rfl) (by simp) ?_
   refine AllReadyG.cons (i := 8) rfl (fun K hK => ?_) ?_
   ·(go_simp; refine (HTg.out _ hHeld).mono ?_; rintro e w5 ⟨vt, rfl, hI, o5⟩; try go_wp2_with fail)
    refine hK.out _ _ ?_ (fun hHeld => ?_)
    ·(try dsimp only) <;> (exact Only.same hHeld o5)
    clear hK K
    try simp only [Act.put, zq1, zq2, zq3, zq4, zq5, zq6]
    refine wpAnyG_ready (rs := [10]) (by kernel_rfl) (by simp) ?_
    refine AllReadyG.cons (i := 10) rfl (fun K hK => ?_) ?_
    ·(go_simp; refine (HHs.out _ _ hI).mono ?_; rintro e w6 ⟨rfl, o6⟩; try go_wp2_with fail)
     refine hK.out _ _ ?_ (fun hHeld => ?_)
     ·(try dsimp only) <;> (exact Only.same hHeld o6)
     clear hK K
     try simp only [Act.put, zq1, zq2, zq3, zq4, zq5, zq6]
     refine wpAnyG_done (by kernel_rfl) ?_ _
     have HO7 := Lib.hid hHeld
     clear hHeld HTg HHs
     obtain ⟨k0, k1, k2⟩ := HBox.out _ HO7.out
     cases bb with
     | true =>
      have hrt : r = true := by
       rw [← HRes.out]
       unfold askedD
       rw [Bool.or_eq_true]
       refine .inl (askN_iff.2 ⟨yy.spec.name, ?_, of_decide_eq_true HBb.out⟩)
       unfold ReqD.names
       exact List.mem_map.2 ⟨yy, List.mem_of_getElem? HXy.out, rfl⟩
      subst hrt
      clear HRes
      go_wp2_with fail
      go_ret
      exact ⟨rfl, HOB.out.same HO7.out⟩
     | false =>
      have HZ2 : Hid (askN x (q.names.take (k + 1)) i = false) := by
       unfold ReqD.names
       rw [names_snoc (fun r : RootD => r.spec.name) HXy.out, askN_snoc, HBb.out]
       have := HZ.out
       unfold ReqD.names at this
       rw [this]
       rfl
      go_wp2_with fail
      go_roundw
      case rel => exact ⟨HO7, k + 1, by first | rfl | go_num, by omega, HZ2⟩
      case measure => simp [RowKit.intOf] <;> omega
    exact AllReadyG.nil
   exact AllReadyG.nil
  ·obtain rfl : n_q_roots = k := by omega
   have HZa : Hid (askN x q.names i = false) := by
    have := HZ.out
    rw [List.take_of_length_le (by unfold ReqD.names; rw [List.length_map]; exact Nat.le_of_eq N_q_roots.out)] at this
    exact this
   have HOC := HOk
   go_wp2_with fail
   clear k0 k1 k2
   go_loopw [33] (fun vk wrk => Hid (Only (fun _ => False) W0 wrk) ∧ ∃ k : Nat, vk = .int .i64 k ∧ k ≤ n_x_packs ∧ Hid ((List.range k).any (askP x f i) = false)) (fun v _ => n_x_packs - (RowKit.intOf v).toNat)
   case atStart => exact ⟨HOC, 0, rfl, Nat.zero_le _, show Hid _ from rfl⟩
   case round =>
    obtain ⟨wrk, rfl⟩ : ∃ W, W = wr := ⟨_, rfl⟩
    clear HOC
    obtain ⟨HOk, k, rfl, hk, HZk⟩ := hrel
    obtain ⟨k0, k1, k2⟩ := HBox.out wrk HOk.out
    by_cases ck : k < n_x_packs
    ·have ewi : IntKind.i64.wrap ((k : Int) + 1) = (k : Int) + 1 := by rw [IntKind.wrap_i64]; omega
     obtain ⟨yz, hxz⟩ : ∃ y, x.packs[k]? = some y := ⟨_, List.getElem?_eq_getElem (by rw [N_x_packs.out]; omega)⟩
     obtain ⟨bkz, offz, az1, nz1, cz1, az2, nz2, cz2, az3, nz3, cz3, az4, nz4, cz4, az5, nz5, cz5, az6, nz6, cz6, hez, N0z1, N0z2, N0z3, N0z4, N0z5, N0z6, okz1, inz1, HE0z⟩ := PackC_at (HR_x_packs.out W0 (Only.refl _ _)) hxz
     first
      | subst hez
      | (simp only [Option.some.injEq, Addr.mk.injEq, and_true] at hez; obtain ⟨rfl, rfl⟩ := hez)
     have Nz1 := Lib.hid N0z1
     have Nz2 := Lib.hid N0z2
     have Nz3 := Lib.hid N0z3
     have Nz4 := Lib.hid N0z4
     have Nz5 := Lib.hid N0z5
     have Nz6 := Lib.hid N0z6
     have HEz := Lib.hid HE0z
     have HXz := Lib.hid hxz
     clear HE0z hxz N0z1 N0z2 N0z3 N0z4 N0z5 N0z6
     have HRz1 : Hid (∀ W, Only (fun _ => False) W0 W → RowT 2 RelC B W (.slice az1 nz1 cz1) yz.rels) := fun W ho => (HEz.out W ho).2.1
     have HRz2 : Hid (∀ W, Only (fun _ => False) W0 W → RowT 2 VarC B W (.slice az2 nz2 cz2) yz.vars) := fun W ho => (HEz.out W ho).2.2.1
     have HRz3 : Hid (∀ W, Only (fun _ => False) W0 W → RowT 1 StrC B W (.slice az3 nz3 cz3) yz.provides) := fun W ho => (HEz.out W ho).2.2.2.1
     have HRz4 : Hid (∀ W, Only (fun _ => False) W0 W → RowT 7 DepC B W (.slice az4 nz4 cz4) yz.deps) := fun W ho => (HEz.out W ho).2.2.2.2.1
     have HRz5 : Hid (∀ W, Only (fun _ => False) W0 W → RowT 7 ConC B W (.slice az5 nz5 cz5) yz.cons) := fun W ho => (HEz.out W ho).2.2.2.2.2.1
     have HRz6 : Hid (∀ W, Only (fun _ => False) W0 W → RowT 1 StrC B W (.slice az6 nz6 cz6) yz.files) := fun W ho => (HEz.out W ho).2.2.2.2.2.2.1
     have HCz : Hid (∀ W, Only (fun _ => False) W0 W → PackC B W [.string yz.name, .int .i64 yz.line, .slice az1 nz1 cz1, .slice az2 nz2 cz2, .slice az3 nz3 cz3, .slice az4 nz4 cz4, .slice az5 nz5 cz5, .slice az6 nz6 cz6] yz) := fun W ho => (HEz.out W ho).2.2.2.2.2.2.2
     have HPz : Hid (x.pack k = yz) := by unfold RecD.pack; rw [List.getD_eq_getElem?_getD, HXz.out]; exact rfl
     obtain ⟨_, _, -, hb3, hb4⟩ := (HRz4.out W0 (Only.refl _ _)).shape
     rw [Nz4.out] at hb3
     have gin := (HIn.out wrk HOk.out).cell ck
     obtain ⟨fk, hfk⟩ : ∃ b, f.getD k false = b := ⟨_, rfl⟩
     rw [hfk] at gin
     have HFk := Lib.hid hfk
     clear hfk
     have hrz := (HEz.out wrk HOk.out).1
     have gz5 := hrz 5 _ rfl
     clear hrz
     cases fk with
     | false =>
      have HZ2 : Hid ((List.range (k + 1)).any (askP x f i) = false) := by
       rw [List.range_succ, List.any_append, HZk.out]
       simp only [List.any_cons, List.any_nil, Bool.or_false, Bool.false_or]
       unfold askP
       rw [HFk.out, Bool.false_and]
       exact rfl
      go_wp2_with fail
      go_roundw
      case rel => exact ⟨HOk, k + 1, by first | rfl | go_num, by omega, HZ2⟩
      case measure => simp [RowKit.intOf] <;> omega
     | true =>
      have HOC := HOk
      go_wp2_with fail
      clear gin gz5
      clear k0 k1 k2
      go_loopw [48] (fun vn wrn => Hid (Only (fun _ => False) W0 wrn) ∧ ∃ n : Nat, vn = .int .i64 n ∧ n ≤ nz4 ∧ Hid (askN x ((yz.deps.map fun d => d.on.name).take n) i = false)) (fun v _ => nz4 - (RowKit.intOf v).toNat)
      case atStart => exact ⟨HOC, 0, rfl, Nat.zero_le _, show Hid _ from rfl⟩
      case round =>
       obtain ⟨wrn, rfl⟩ : ∃ W, W = wr := ⟨_, rfl⟩
       clear HOC
       obtain ⟨HOn, n, rfl, hn, HZn⟩ := hrel
       obtain ⟨k0, k1, k2⟩ := HBox.out wrn HOn.out
       by_cases cn : n < nz4
       ·have ewi : IntKind.i64.wrap ((n : Int) + 1) = (n : Int) + 1 := by rw [IntKind.wrap_i64]; omega
        obtain ⟨yu, hxu⟩ : ∃ y, yz.deps[n]? = some y := ⟨_, List.getElem?_eq_getElem (by rw [Nz4.out]; omega)⟩
        obtain ⟨bku, offu, au1, nu1, cu1, au2, nu2, cu2, au3, nu3, cu3, au4, nu4, cu4, heu, N0u1, N0u2, N0u3, N0u4, oku1, oku2, inu1, HE0u⟩ := DepC_at (HRz4.out W0 (Only.refl _ _)) hxu
        first
         | subst heu
         | (simp only [Option.some.injEq, Addr.mk.injEq, and_true] at heu; obtain ⟨rfl, rfl⟩ := heu)
        have Nu1 := Lib.hid N0u1
        have Nu2 := Lib.hid N0u2
        have Nu3 := Lib.hid N0u3
        have Nu4 := Lib.hid N0u4
        have HEu := Lib.hid HE0u
        have HXu := Lib.hid hxu
        clear HE0u hxu N0u1 N0u2 N0u3 N0u4
        have HRu1 : Hid (∀ W, Only (fun _ => False) W0 W → RowT 2 SpanC B W (.slice au1 nu1 cu1) yu.on.spans) := fun W ho => (HEu.out W ho).2.1
        have HRu2 : Hid (∀ W, Only (fun _ => False) W0 W → RowT 2 SetC B W (.slice au2 nu2 cu2) yu.on.sets) := fun W ho => (HEu.out W ho).2.2.1
        have HRu3 : Hid (∀ W, Only (fun _ => False) W0 W → RowT 2 SpanC B W (.slice au3 nu3 cu3) yu.cond.spans) := fun W ho => (HEu.out W ho).2.2.2.1
        have HRu4 : Hid (∀ W, Only (fun _ => False) W0 W → RowT 2 SetC B W (.slice au4 nu4 cu4) yu.cond.sets) := fun W ho => (HEu.out W ho).2.2.2.2.1
        have HCu : Hid (∀ W, Only (fun _ => False) W0 W → DepC B W [.string yu.on.name, .slice au1 nu1 cu1, .slice au2 nu2 cu2, .string yu.cond.name, .slice au3 nu3 cu3, .slice au4 nu4 cu4, .int .i64 yu.line] yu) := fun W ho => (HEu.out W ho).2.2.2.2.2
        obtain ⟨bb, hbb⟩ : ∃ b, decide (i ∈ x.targets yu.on.name) = b := ⟨_, rfl⟩
        have HTg : Hid (∀ W, Only (fun _ => False) W0 W → Calls Tryz.prog 56 #[.agg #[.slice (some ⟨bkz, offz, none⟩) n_x_packs c_x_packs, .slice a_x_prefs n_x_prefs c_x_prefs], .string yu.on.name] W fun e w' => ∃ v, e = .returned v ∧ Ints w' v (intsOf (x.targets yu.on.name)) ∧ Only (fun _ => False) W w') := fun W hW => Targets10_any (HK_x.out W hW) (by rw [N_x_packs.out]; exact hlen) _
        have HHs : Hid (∀ W v, Ints W v (intsOf (x.targets yu.on.name)) → Calls Tryz.prog 24 #[v, .int .i64 (i : Int)] W fun e w' => e = .returned (.bool bb) ∧ Only (fun _ => False) W w') := fun W v hv => by
         rw [← hbb, ← contains_ints]
         exact Has_any hv _
        have HBb := Lib.hid hbb
        clear hbb
        go_wp2_with fail
        clear k0 k1 k2
        refine wp_region_G (n := 15) (E := fun _ => false) (S := fun W => Only (fun _ => False) W0 W) (by kernel_rfl) rfl (by exact (HOn.out).drew) (fun hHeld => ?_)
        refine tqK (i := 0) (v := ?_) rfl ?_ ?_
        rotate_left
        ·(intro w hSw; obtain ⟨k0, k1, k2⟩ := HBox.out w hSw; have hrz := (HEz.out w hSw).1; have gz5 := hrz 5 _ rfl; clear hrz; have hru := (HEu.out w hSw).1; have gu0 := hru 0 _ rfl; rw [Nat.add_zero] at gu0; clear hru; go_simp <;> (try with_reducible rfl))
        try simp only [Act.put, zq1, zq3, zq4, zq5, zq6]
        refine tqW (i := 1) (v := ?_) rfl (.inr (by assumption)) ?_ ?_
        rotate_left
        ·(intro w; go_simp <;> (try with_reducible rfl))
        try simp only [Act.put, zq1, zq2, zq3, zq4, zq5, zq6]
        refine tqK (i := 2) (v := ?_) rfl ?_ ?_
        rotate_left
        ·(intro w hSw; obtain ⟨k0, k1, k2⟩ := HBox.out w hSw; have hrz := (HEz.out w hSw).1; have gz5 := hrz 5 _ rfl; clear hrz; have hru := (HEu.out w hSw).1; have gu0 := hru 0 _ rfl; rw [Nat.add_zero] at gu0; clear hru; go_simp <;> (try with_reducible rfl))
        try simp only [Act.put, zq1, zq2, zq3, zq4, zq5, zq6]
        refine tqW (i := 3) (v := ?_) rfl (.inr (by assumption)) ?_ ?_
        rotate_left
        ·(intro w; go_simp <;> (try with_reducible rfl))
        try simp only [Act.put, zq1, zq2, zq3, zq4, zq5, zq6]
        refine tqW (i := 4) (v := ?_) rfl (.inr (by assumption)) ?_ ?_
        rotate_left
        ·(intro w; go_simp <;> (try with_reducible rfl))
        try simp only [Act.put, zq1, zq2, zq3, zq4, zq5, zq6]
        refine tqW (i := 5) (v := ?_) rfl (.inr (by assumption)) ?_ ?_
        rotate_left
        ·(intro w; go_simp <;> (try with_reducible rfl))
        try simp only [Act.put, zq1, zq2, zq3, zq4, zq5, zq6]
        refine tqK (i := 6) (v := ?_) rfl ?_ ?_
        rotate_left
        ·(intro w hSw; obtain ⟨k0, k1, k2⟩ := HBox.out w hSw; have hrz := (HEz.out w hSw).1; have gz5 := hrz 5 _ rfl; clear hrz; have hru := (HEu.out w hSw).1; have gu0 := hru 0 _ rfl; rw [Nat.add_zero] at gu0; clear hru; go_simp <;> (try with_reducible rfl))
        try simp only [Act.put, zq1, zq2, zq3, zq4, zq5, zq6]
        refine tqW (i := 7) (v := ?_) rfl (.inr (by assumption)) ?_ ?_
        rotate_left
        ·(intro w; go_simp <;> (try with_reducible rfl))
        try simp only [Act.put, zq1, zq2, zq3, zq4, zq5, zq6]
        refine tqW (i := 8) (v := ?_) rfl (.inr (by assumption)) ?_ ?_
        rotate_left
        ·(intro w; go_simp <;> (try with_reducible rfl))
        try simp only [Act.put, zq1, zq2, zq3, zq4, zq5, zq6]
        refine tqW (i := 9) (v := ?_) rfl (.inr (by assumption)) ?_ ?_
        rotate_left
        ·(intro w; go_simp <;> (try with_reducible rfl))
        try simp only [Act.put, zq1, zq2, zq3, zq4, zq5, zq6]
        refine tqW (i := 10) (v := ?_) rfl (.inr (by assumption)) ?_ ?_
        rotate_left
        ·(intro w; go_simp <;> (try with_reducible rfl))
        try simp only [Act.put, zq1, zq2, zq3, zq4, zq5, zq6]
        refine tqK (i := 11) (v := ?_) rfl ?_ ?_
        rotate_left
        ·(intro w hSw; obtain ⟨k0, k1, k2⟩ := HBox.out w hSw; have hrz := (HEz.out w hSw).1; have gz5 := hrz 5 _ rfl; clear hrz; have hru := (HEu.out w hSw).1; have gu0 := hru 0 _ rfl; rw [Nat.add_zero] at gu0; clear hru; go_simp <;> (try with_reducible rfl))
        try simp only [Act.put, zq1, zq2, zq3, zq4, zq5, zq6]
        refine tqW (i := 13) (v := ?_) rfl (.inr (by assumption)) ?_ ?_
        rotate_left
        ·(intro w; go_simp <;> (try with_reducible rfl))
        try simp only [Act.put, zq1, zq2, zq3, zq4, zq5, zq6]
        refine wpAnyG_ready (rs := [12]) (by kernel_rfl) (by simp) ?_
        refine AllReadyG.cons (i := 12) rfl (fun K hK => ?_) ?_
        ·(go_simp; refine (HTg.out _ hHeld).mono ?_; rintro e w5 ⟨vt, rfl, hI, o5⟩; try go_wp2_with fail)
         refine hK.out _ _ ?_ (fun hHeld => ?_)
         ·(try dsimp only) <;> (exact Only.same hHeld o5)
         clear hK K
         try simp only [Act.put, zq1, zq2, zq3, zq4, zq5, zq6]
         refine wpAnyG_ready (rs := [14]) (by kernel_rfl) (by simp) ?_
         refine AllReadyG.cons (i := 14) rfl (fun K hK => ?_) ?_
         ·(go_simp; refine (HHs.out _ _ hI).mono ?_; rintro e w6 ⟨rfl, o6⟩; try go_wp2_with fail)
          refine hK.out _ _ ?_ (fun hHeld => ?_)
          ·(try dsimp only) <;> (exact Only.same hHeld o6)
          clear hK K
          try simp only [Act.put, zq1, zq2, zq3, zq4, zq5, zq6]
          refine wpAnyG_done (by kernel_rfl) ?_ _
          have HO7 := Lib.hid hHeld
          clear hHeld HTg HHs
          obtain ⟨k0, k1, k2⟩ := HBox.out _ HO7.out
          cases bb with
          | true =>
           have hrt : r = true := by
            rw [← HRes.out]
            unfold askedD
            rw [Bool.or_eq_true]
            refine .inr (List.any_eq_true.2 ⟨k, List.mem_range.2 (by rw [N_x_packs.out]; exact ck), ?_⟩)
            unfold askP
            rw [HFk.out, HPz.out]
            refine askN_iff.2 ⟨yu.on.name, List.mem_map.2 ⟨yu, List.mem_of_getElem? HXu.out, rfl⟩, of_decide_eq_true HBb.out⟩
           subst hrt
           clear HRes
           go_wp2_with fail
           go_ret
           exact ⟨rfl, HOB.out.same HO7.out⟩
          | false =>
           have HZ4 : Hid (askN x ((yz.deps.map fun d => d.on.name).take (n + 1)) i = false) := by
            rw [names_snoc (fun d : DepD => d.on.name) HXu.out, askN_snoc, HBb.out, HZn.out]
            rfl
           go_wp2_with fail
           go_roundw
           case rel => exact ⟨HO7, n + 1, by first | rfl | go_num, by omega, HZ4⟩
           case measure => simp [RowKit.intOf] <;> omega
         exact AllReadyG.nil
        exact AllReadyG.nil
       ·obtain rfl : nz4 = n := by omega
        have HZ2 : Hid ((List.range (k + 1)).any (askP x f i) = false) := by
         rw [List.range_succ, List.any_append, HZk.out]
         simp only [List.any_cons, List.any_nil, Bool.or_false, Bool.false_or]
         unfold askP
         rw [HPz.out]
         have := HZn.out
         rw [List.take_of_length_le (by rw [List.length_map]; exact Nat.le_of_eq Nz4.out)] at this
         rw [this, Bool.and_false]
         exact rfl
        go_wp2_with fail
        go_roundw
        case rel => exact ⟨HOn, k + 1, by first | rfl | go_num, by omega, HZ2⟩
        case measure => simp [RowKit.intOf] <;> omega
    ·obtain rfl : n_x_packs = k := by omega
     have hrf : r = false := by
      rw [← HRes.out]
      unfold askedD
      rw [HZa.out, N_x_packs.out, HZk.out]
      rfl
     subst hrf
     clear HRes
     go_wp2_with fail
     go_ret
     exact ⟨rfl, HOB.out.same HOk.out⟩
end
end Go.Proofs.YtbapkcnfacklaaaGreat

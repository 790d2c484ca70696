/- The document's checks: Request; the guard of choice. Printed by gen_rfa.py. -/
import Derived.Test.YtbapkcnfacklaaaGreatRf8
import Derived.Test.YtbapkcnfacklaaaGreatNdA
set_option linter.unusedVariables false
namespace Go.Proofs.YtbapkcnfacklaaaGreat
open Go.RowKit
section
variable {w w' : World} {B : Nat}
attribute [local irreducible] wpQuiet
set_option maxRecDepth 100000 in
set_option maxHeartbeats 4000000 in
theorem Request9_any {csx : List Value} {x : RecD} (hx : RecC B w csx x) {csq : List Value} {q : ReqD} (hq : ReqC B w csq q) (hlen : x.packs.length ≤ 1000000) :
  Calls Tryz.prog 52 #[.agg csx.toArray, .agg csq.toArray] w fun e w' => ProbEnd (q.roots.length ≤ 8) w w' e := by
 have HH_x := Lib.hid hx
 obtain ⟨u1, u2, rfl, r1, r2⟩ := hx
 obtain ⟨a_x_packs, c_x_packs, rfl, g_x_packs, h_x_packs⟩ := r1.shape
 obtain ⟨n_x_packs, e1⟩ : ∃ n, x.packs.length = n := ⟨_, rfl⟩
 have N_x_packs := Lib.hid e1
 obtain ⟨a_x_prefs, c_x_prefs, rfl, g_x_prefs, h_x_prefs⟩ := r2.shape
 obtain ⟨n_x_prefs, e2⟩ : ∃ n, x.prefs.length = n := ⟨_, rfl⟩
 have N_x_prefs := Lib.hid e2
 rw [e1, e2] at HH_x
 rw [e1] at r1 g_x_packs
 have RR_x_packs := Lib.hid r1
 rw [e2] at r2 g_x_prefs
 have RR_x_prefs := Lib.hid r2
 rw [e1, e2]
 clear e1 e2 r1 r2
 have HH_q := Lib.hid hq
 obtain ⟨u1, rfl, r1⟩ := hq
 obtain ⟨a_q_roots, c_q_roots, rfl, g_q_roots, h_q_roots⟩ := r1.shape
 obtain ⟨n_q_roots, e1⟩ : ∃ n, q.roots.length = n := ⟨_, rfl⟩
 have N_q_roots := Lib.hid e1
 rw [e1] at HH_q
 rw [e1] at r1 g_q_roots
 have RR_q_roots := Lib.hid r1
 rw [e1]
 clear e1 r1
 obtain ⟨W0, hW0⟩ : ∃ W0, W0 = ((w.alloc (.cells #[.slice a_x_packs n_x_packs c_x_packs, .slice a_x_prefs n_x_prefs c_x_prefs] 25)).alloc (.cells #[.slice a_q_roots n_q_roots c_q_roots] 28)) := ⟨_, rfl⟩
 have HOB : Hid (Only (fun _ => False) w W0) := by rw [hW0]; exact ((Only.refl _ _).alloc _).alloc _
 have HSz : Hid (W0.heap.size = w.heap.size + 2) := by rw [hW0]; simp [Hid]
 have HBox : Hid (∀ W, Only (fun _ => False) W0 W → W.cell? ⟨w.heap.size, 0, none⟩ = some (.slice a_x_packs n_x_packs c_x_packs) ∧ W.cell? ⟨w.heap.size, 1, none⟩ = some (.slice a_x_prefs n_x_prefs c_x_prefs) ∧ W.cell? ⟨w.heap.size + 1, 0, none⟩ = some (.slice a_q_roots n_q_roots c_q_roots)) := fun W ho => by
  have b0 : W0.heap[w.heap.size]? = some (.cells #[.slice a_x_packs n_x_packs c_x_packs, .slice a_x_prefs n_x_prefs c_x_prefs] 25) := by rw [hW0]; exact alloc_block (alloc_at rfl) _
  have d0 := only_block b0 ho (fun f => f)
  have b1 : W0.heap[w.heap.size + 1]? = some (.cells #[.slice a_q_roots n_q_roots c_q_roots] 28) := by rw [hW0]; exact alloc_at (by simp)
  have d1 := only_block b1 ho (fun f => f)
  exact ⟨by rw [cell_block d0]; rfl, by rw [cell_block d0]; rfl, by rw [cell_block d1]; rfl⟩
 have HK_x : Hid (∀ W, Only (fun _ => False) W0 W → RecC B W [.slice a_x_packs n_x_packs c_x_packs, .slice a_x_prefs n_x_prefs c_x_prefs] x) := fun W ho => RecC.keep HH_x.out (Kp.of0 (HOB.out.same ho) : Kp B w W)
 have HR_x_packs : Hid (∀ W, Only (fun _ => False) W0 W → RowT 8 PackC B W (.slice a_x_packs n_x_packs c_x_packs) x.packs) := fun W ho => RR_x_packs.out.keep PackC.keep (Kp.of0 (HOB.out.same ho))
 clear RR_x_packs
 have HR_x_prefs : Hid (∀ W, Only (fun _ => False) W0 W → RowT 3 PrefC B W (.slice a_x_prefs n_x_prefs c_x_prefs) x.prefs) := fun W ho => RR_x_prefs.out.keep PrefC.keep (Kp.of0 (HOB.out.same ho))
 clear RR_x_prefs
 clear HH_x
 have HK_q : Hid (∀ W, Only (fun _ => False) W0 W → ReqC B W [.slice a_q_roots n_q_roots c_q_roots] q) := fun W ho => ReqC.keep HH_q.out (Kp.of0 (HOB.out.same ho) : Kp B w W)
 have HR_q_roots : Hid (∀ W, Only (fun _ => False) W0 W → RowT 4 RootC B W (.slice a_q_roots n_q_roots c_q_roots) q.roots) := fun W ho => RR_q_roots.out.keep RootC.keep (Kp.of0 (HOB.out.same ho))
 clear RR_q_roots
 clear HH_q
 rw [N_x_packs.out] at hlen
 obtain ⟨W1, hW1⟩ : ∃ W, W = W0.alloc (.cells #[.int .u8 0, .int .i64 0] 122) := ⟨_, rfl⟩
 have HO1 : Hid (Only (fun _ => False) W0 W1) := by rw [hW1]; exact (Only.refl _ _).alloc _
 have HRr : Hid (∀ W, Only (fun _ => False) W1 W → W.heap[w.heap.size + 2]? = some (.cells #[.int .u8 0, .int .i64 0] 122)) := fun W ho => by
  have b0 : W1.heap[w.heap.size + 2]? = some (.cells #[.int .u8 0, .int .i64 0] 122) := by rw [hW1, ← HSz.out]; exact heap_alloc_new W0 _
  exact only_block b0 ho (fun f => f)
 have HPs : Hid (Only (fun _ => False) W1 W1) := Only.refl _ _
 by_cases z1 : n_q_roots = 0
 ·subst z1
  obtain ⟨k0, k1, k2⟩ := HBox.out W1 (HO1.out.same HPs.out)
  have hz := HRr.out W1 HPs.out
  rw [hW1, hW0] at k0 k1 k2 hz
  go_enter Tryz.func52, Tryz.ntmps52
  go_wp2_with (refine wpList_store_row rfl 122 (.tmp 4) (.tmp 11) rfl (w.heap.size + 2) #[.int .u8 11, .int .i64 0] rfl rfl 122 #[.int .u8 0, .int .i64 0] hz (by kernel_rfl) rfl (by kernel_rfl) ?_)
  refine ret_prob (p := 4) rfl rfl rfl rfl (setRow_heap _ _ _ _ _ _ hz) ?_
  rw [← hW0, ← hW1]
  exact ProbEnd.mk _ _ rfl (fun h => absurd h (by decide)) ((HOB.out.same (HO1.out.same HPs.out)).trans (only_setRow _ _ _) (fun k hk => .inr (by omega)))
 ·have z3 : ((n_q_roots : Int) == 0) = false := by rw [beq_eq_false_iff_ne]; omega
  by_cases q1 : 8 < n_q_roots
  ·obtain ⟨yy, hxy⟩ : ∃ y, q.roots[8]? = some y := ⟨_, List.getElem?_eq_getElem (by rw [N_q_roots.out]; omega)⟩
   obtain ⟨bky, offy, ay1, ny1, cy1, ay2, ny2, cy2, hey, N0y1, N0y2, oky1, iny1, HE0y⟩ := RootC_at (HR_q_roots.out W0 (Only.refl _ _)) hxy
   first
    | subst hey
    | (simp only [Option.some.injEq, Addr.mk.injEq, and_true] at hey; obtain ⟨rfl, rfl⟩ := hey)
   have Ny1 := Lib.hid N0y1
   have Ny2 := Lib.hid N0y2
   have HEy := Lib.hid HE0y
   have HXy := Lib.hid hxy
   clear HE0y hxy N0y1 N0y2
   have HRy1 : Hid (∀ W, Only (fun _ => False) W0 W → RowT 2 SpanC B W (.slice ay1 ny1 cy1) yy.spec.spans) := fun W ho => (HEy.out W ho).2.1
   have HRy2 : Hid (∀ W, Only (fun _ => False) W0 W → RowT 2 SetC B W (.slice ay2 ny2 cy2) yy.spec.sets) := fun W ho => (HEy.out W ho).2.2.1
   have HCy : Hid (∀ W, Only (fun _ => False) W0 W → RootC B W [.string yy.spec.name, .slice ay1 ny1 cy1, .slice ay2 ny2 cy2, .int .i64 yy.line] yy) := fun W ho => (HEy.out W ho).2.2.2
   have hry := (HEy.out W1 HO1.out).1
   have gy3 := hry 3 _ rfl
   clear hry
   obtain ⟨k0, k1, k2⟩ := HBox.out W1 (HO1.out.same HPs.out)
   have hz := HRr.out W1 HPs.out
   rw [hW1, hW0] at k0 k1 k2 hz gy3
   go_enter Tryz.func52, Tryz.ntmps52
   go_wp2_with (refine wpList_store_row rfl 122 (.tmp 4) (.tmp 21) rfl (w.heap.size + 2) #[.int .u8 1, .int .i64 yy.line] rfl rfl 122 #[.int .u8 0, .int .i64 0] hz (by kernel_rfl) rfl (by kernel_rfl) ?_)
   refine ret_prob (p := 4) rfl rfl rfl rfl (setRow_heap _ _ _ _ _ _ hz) ?_
   rw [← hW0, ← hW1]
   exact ProbEnd.mk _ _ rfl (fun h => absurd h (by decide)) ((HOB.out.same (HO1.out.same HPs.out)).trans (only_setRow _ _ _) (fun k hk => .inr (by omega)))
  ·go_enter Tryz.func52, Tryz.ntmps52
   go_wp2_with fail
   rw [← hW0, ← hW1]
   clear hW0 hW1
   have HOC := HPs
   go_loopw [25] (fun vi wri => Hid (Only (fun _ => False) W1 wri) ∧ ∃ i : Nat, vi = .int .i64 i ∧ i ≤ n_q_roots) (fun v _ => n_q_roots - (RowKit.intOf v).toNat)
   case atStart => exact ⟨HOC, 0, rfl, Nat.zero_le _⟩
   case round =>
    obtain ⟨wri, rfl⟩ : ∃ W, W = wr := ⟨_, rfl⟩
    clear HOC
    obtain ⟨HPi, i, rfl, hi⟩ := hrel
    obtain ⟨k0, k1, k2⟩ := HBox.out wri (HO1.out.same HPi.out)
    by_cases ci : i < n_q_roots
    ·have ewi : IntKind.i64.wrap ((i : Int) + 1) = (i : Int) + 1 := by rw [IntKind.wrap_i64]; omega
     obtain ⟨yy, hxy⟩ : ∃ y, q.roots[i]? = some y := ⟨_, List.getElem?_eq_getElem (by rw [N_q_roots.out]; omega)⟩
     obtain ⟨bky, offy, ay1, ny1, cy1, ay2, ny2, cy2, hey, N0y1, N0y2, oky1, iny1, HE0y⟩ := RootC_at (HR_q_roots.out W0 (Only.refl _ _)) hxy
     first
      | subst hey
      | (simp only [Option.some.injEq, Addr.mk.injEq, and_true] at hey; obtain ⟨rfl, rfl⟩ := hey)
     have Ny1 := Lib.hid N0y1
     have Ny2 := Lib.hid N0y2
     have HEy := Lib.hid HE0y
     have HXy := Lib.hid hxy
     clear HE0y hxy N0y1 N0y2
     have HRy1 : Hid (∀ W, Only (fun _ => False) W0 W → RowT 2 SpanC B W (.slice ay1 ny1 cy1) yy.spec.spans) := fun W ho => (HEy.out W ho).2.1
     have HRy2 : Hid (∀ W, Only (fun _ => False) W0 W → RowT 2 SetC B W (.slice ay2 ny2 cy2) yy.spec.sets) := fun W ho => (HEy.out W ho).2.2.1
     have HCy : Hid (∀ W, Only (fun _ => False) W0 W → RootC B W [.string yy.spec.name, .slice ay1 ny1 cy1, .slice ay2 ny2 cy2, .int .i64 yy.line] yy) := fun W ho => (HEy.out W ho).2.2.2
     obtain ⟨c, hc⟩ : ∃ c, x.wish yy.spec = c := ⟨_, rfl⟩
     have HWs : Hid (∀ W, Only (fun _ => False) W1 W → Calls Tryz.prog 76 #[.agg #[.slice a_x_packs n_x_packs c_x_packs, .slice a_x_prefs n_x_prefs c_x_prefs], .agg #[.string yy.spec.name, .slice ay1 ny1 cy1, .slice ay2 ny2 cy2]] W fun e w' => e = .returned (.int .u8 c) ∧ Only (fun _ => False) W w') := fun W hW => by
      rw [← hc]
      exact Wish_any (HK_x.out W (HO1.out.same hW)) (⟨_, _, rfl, oky1, HRy1.out W (HO1.out.same hW), HRy2.out W (HO1.out.same hW)⟩ : SpecC B W [.string yy.spec.name, .slice ay1 ny1 cy1, .slice ay2 ny2 cy2] yy.spec) (by rw [N_x_packs.out]; exact hlen)
     clear hc
     go_wp2_with fail
     clear k0 k1 k2
     refine wp_region_Q (fun w' => Only (fun _ => False) W1 w') (by kernel_rfl) (by kernel_rfl) (by exact (HPi.out).drew) ?_
     refine wpQ_val (v := ?_) (by rfl) ?_ ?_
     rotate_left
     ·(intro w hSw; (try dsimp only at hSw); obtain ⟨k0, k1, k2⟩ := HBox.out w (HO1.out.same hSw); have hry := (HEy.out w (HO1.out.same hSw)).1; have gy0 := hry 0 _ rfl; have gy1 := hry 1 _ rfl; have gy2 := hry 2 _ rfl; rw [Nat.add_zero] at gy0; clear hry; go_simp <;> (try with_reducible rfl))
     try simp only [Act.put, zq4, zq5, zq6]
     refine wpQ_val (v := ?_) (by rfl) ?_ ?_
     rotate_left
     ·(intro w hSw; (try dsimp only at hSw); go_simp <;> (try with_reducible rfl))
     try simp only [Act.put, zq4, zq5, zq6]
     refine wpQ_val (v := ?_) (by rfl) ?_ ?_
     rotate_left
     ·(intro w hSw; (try dsimp only at hSw); obtain ⟨k0, k1, k2⟩ := HBox.out w (HO1.out.same hSw); have hry := (HEy.out w (HO1.out.same hSw)).1; have gy0 := hry 0 _ rfl; have gy1 := hry 1 _ rfl; have gy2 := hry 2 _ rfl; rw [Nat.add_zero] at gy0; clear hry; go_simp <;> (try with_reducible rfl))
     try simp only [Act.put, zq4, zq5, zq6]
     refine wpQ_val (v := ?_) (by rfl) ?_ ?_
     rotate_left
     ·(intro w hSw; (try dsimp only at hSw); go_simp <;> (try with_reducible rfl))
     try simp only [Act.put, zq4, zq5, zq6]
     refine wpQ_val (v := ?_) (by rfl) ?_ ?_
     rotate_left
     ·(intro w hSw; (try dsimp only at hSw); go_simp <;> (try with_reducible rfl))
     try simp only [Act.put, zq4, zq5, zq6]
     refine wpQ_val (v := ?_) (by rfl) ?_ ?_
     rotate_left
     ·(intro w hSw; (try dsimp only at hSw); go_simp <;> (try with_reducible rfl))
     try simp only [Act.put, zq4, zq5, zq6]
     refine wpQ_val (v := ?_) (by rfl) ?_ ?_
     rotate_left
     ·(intro w hSw; (try dsimp only at hSw); obtain ⟨k0, k1, k2⟩ := HBox.out w (HO1.out.same hSw); have hry := (HEy.out w (HO1.out.same hSw)).1; have gy0 := hry 0 _ rfl; have gy1 := hry 1 _ rfl; have gy2 := hry 2 _ rfl; rw [Nat.add_zero] at gy0; clear hry; go_simp <;> (try with_reducible rfl))
     try simp only [Act.put, zq4, zq5, zq6]
     refine wpQ_call (v := .int .u8 c) (f := 76) (args := #[.agg #[.slice a_x_packs n_x_packs c_x_packs, .slice a_x_prefs n_x_prefs c_x_prefs], .agg #[.string yy.spec.name, .slice ay1 ny1 cy1, .slice ay2 ny2 cy2]]) (by rfl) ?_ ?_ ?_
     ·(intro w; go_simp <;> (try with_reducible rfl))
     ·(intro w hSw; exact (HWs.out w hSw).mono fun _ _ ⟨he, ho⟩ => ⟨he, hSw.same ho⟩)
     try simp only [Act.put, zq4, zq5, zq6]
     refine wpQ_val (v := ?_) (by rfl) ?_ ?_
     rotate_left
     ·(intro w hSw; (try dsimp only at hSw); go_simp <;> (try with_reducible rfl))
     try simp only [Act.put, zq4, zq5, zq6]
     refine wpQuiet_nil ?_
     (intro w9 hw9; have HO9 := Lib.hid hw9; clear hw9)
     have HP9 := HO9
     obtain ⟨k0, k1, k2⟩ := HBox.out w9 (HO1.out.same HP9.out)
     by_cases c0 : c = 0
     ·subst c0
      go_wp2_with fail
      go_roundw
      case rel => exact ⟨HP9, i + 1, by first | rfl | go_num, by omega⟩
      case measure => simp [RowKit.intOf] <;> omega
     ·have c1 : ((c : Int) == 0) = false := by rw [beq_eq_false_iff_ne]; exact c0
      have hry := (HEy.out w9 (HO1.out.same HP9.out)).1
      have gy3 := hry 3 _ rfl
      clear hry
      go_wp2_with (refine wpList_store_row rfl 122 (.tmp 4) (.tmp 45) rfl (w.heap.size + 2) #[.int .u8 c, .int .i64 yy.line] rfl rfl 122 #[.int .u8 0, .int .i64 0] (HRr.out w9 HP9.out) (by kernel_rfl) rfl (by kernel_rfl) ?_)
      refine ret_prob (p := 4) rfl rfl rfl rfl (setRow_heap _ _ _ _ _ _ (HRr.out w9 HP9.out)) ?_
      exact ProbEnd.mk _ _ rfl (fun h => absurd h c0) ((HOB.out.same (HO1.out.same HP9.out)).trans (only_setRow _ _ _) (fun k hk => .inr (by omega)))
    ·obtain rfl : n_q_roots = i := by omega
     go_wp2_with (refine wpList_store_row rfl 122 (.tmp 4) (.tmp 47) rfl (w.heap.size + 2) #[.int .u8 0, .int .i64 0] rfl rfl 122 #[.int .u8 0, .int .i64 0] (HRr.out wri HPi.out) (by kernel_rfl) rfl (by kernel_rfl) ?_)
     refine ret_prob (p := 4) rfl rfl rfl rfl (setRow_heap _ _ _ _ _ _ (HRr.out wri HPi.out)) ?_
     exact ProbEnd.mk _ _ rfl (fun _ => by omega) ((HOB.out.same (HO1.out.same HPi.out)).trans (only_setRow _ _ _) (fun k hk => .inr (by omega)))
structure SmallCh (x : RecD) (q : ReqD) : Prop where
 packs : x.packs.length ≤ 8
 all : ∀ p ∈ x.packs, PackOk p
 roots : q.roots.length ≤ 8
theorem fieldP (u a : Value) (W : World) : (Instr.field 122 (.agg #[u, a]) 0).run Tryz.prog W = .ok u W := by
 unfold Instr.field
 rw [Sem.run_bind, run_underlying Tryz.underlying122]
 simp [asAgg, part, isAgg]
set_option maxRecDepth 100000 in
set_option maxHeartbeats 4000000 in
theorem Great13_any {csx : List Value} {x : RecD} (hx : RecC B w csx x) {csq : List Value} {q : ReqD} (hq : ReqC B w csq q) (hlen : x.packs.length ≤ 1000000) :
  Calls Tryz.prog 31 #[.agg csx.toArray, .agg csq.toArray] w fun e w' => BoolEnd w w' e (SmallCh x q) := by
 have HH_x := Lib.hid hx
 obtain ⟨u1, u2, rfl, r1, r2⟩ := hx
 obtain ⟨a_x_packs, c_x_packs, rfl, g_x_packs, h_x_packs⟩ := r1.shape
 obtain ⟨n_x_packs, e1⟩ : ∃ n, x.packs.length = n := ⟨_, rfl⟩
 have N_x_packs := Lib.hid e1
 obtain ⟨a_x_prefs, c_x_prefs, rfl, g_x_prefs, h_x_prefs⟩ := r2.shape
 obtain ⟨n_x_prefs, e2⟩ : ∃ n, x.prefs.length = n := ⟨_, rfl⟩
 have N_x_prefs := Lib.hid e2
 rw [e1, e2] at HH_x
 rw [e1] at r1 g_x_packs
 have RR_x_packs := Lib.hid r1
 rw [e2] at r2 g_x_prefs
 have RR_x_prefs := Lib.hid r2
 rw [e1, e2]
 clear e1 e2 r1 r2
 have HH_q := Lib.hid hq
 obtain ⟨u1, rfl, r1⟩ := hq
 obtain ⟨a_q_roots, c_q_roots, rfl, g_q_roots, h_q_roots⟩ := r1.shape
 obtain ⟨n_q_roots, e1⟩ : ∃ n, q.roots.length = n := ⟨_, rfl⟩
 have N_q_roots := Lib.hid e1
 rw [e1] at HH_q
 rw [e1] at r1 g_q_roots
 have RR_q_roots := Lib.hid r1
 rw [e1]
 clear e1 r1
 obtain ⟨W0, hW0⟩ : ∃ W0, W0 = ((w.alloc (.cells #[.slice a_x_packs n_x_packs c_x_packs, .slice a_x_prefs n_x_prefs c_x_prefs] 25)).alloc (.cells #[.slice a_q_roots n_q_roots c_q_roots] 28)) := ⟨_, rfl⟩
 have HOB : Hid (Only (fun _ => False) w W0) := by rw [hW0]; exact ((Only.refl _ _).alloc _).alloc _
 have HSz : Hid (W0.heap.size = w.heap.size + 2) := by rw [hW0]; simp [Hid]
 have HBox : Hid (∀ W, Only (fun _ => False) W0 W → W.cell? ⟨w.heap.size, 0, none⟩ = some (.slice a_x_packs n_x_packs c_x_packs) ∧ W.cell? ⟨w.heap.size, 1, none⟩ = some (.slice a_x_prefs n_x_prefs c_x_prefs) ∧ W.cell? ⟨w.heap.size + 1, 0, none⟩ = some (.slice a_q_roots n_q_roots c_q_roots)) := fun W ho => by
  have b0 : W0.heap[w.heap.size]? = some (.cells #[.slice a_x_packs n_x_packs c_x_packs, .slice a_x_prefs n_x_prefs c_x_prefs] 25) := by rw [hW0]; exact alloc_block (alloc_at rfl) _
  have d0 := only_block b0 ho (fun f => f)
  have b1 : W0.heap[w.heap.size + 1]? = some (.cells #[.slice a_q_roots n_q_roots c_q_roots] 28) := by rw [hW0]; exact alloc_at (by simp)
  have d1 := only_block b1 ho (fun f => f)
  exact ⟨by rw [cell_block d0]; rfl, by rw [cell_block d0]; rfl, by rw [cell_block d1]; rfl⟩
 have HK_x : Hid (∀ W, Only (fun _ => False) W0 W → RecC B W [.slice a_x_packs n_x_packs c_x_packs, .slice a_x_prefs n_x_prefs c_x_prefs] x) := fun W ho => RecC.keep HH_x.out (Kp.of0 (HOB.out.same ho) : Kp B w W)
 have HR_x_packs : Hid (∀ W, Only (fun _ => False) W0 W → RowT 8 PackC B W (.slice a_x_packs n_x_packs c_x_packs) x.packs) := fun W ho => RR_x_packs.out.keep PackC.keep (Kp.of0 (HOB.out.same ho))
 clear RR_x_packs
 have HR_x_prefs : Hid (∀ W, Only (fun _ => False) W0 W → RowT 3 PrefC B W (.slice a_x_prefs n_x_prefs c_x_prefs) x.prefs) := fun W ho => RR_x_prefs.out.keep PrefC.keep (Kp.of0 (HOB.out.same ho))
 clear RR_x_prefs
 clear HH_x
 have HK_q : Hid (∀ W, Only (fun _ => False) W0 W → ReqC B W [.slice a_q_roots n_q_roots c_q_roots] q) := fun W ho => ReqC.keep HH_q.out (Kp.of0 (HOB.out.same ho) : Kp B w W)
 have HR_q_roots : Hid (∀ W, Only (fun _ => False) W0 W → RowT 4 RootC B W (.slice a_q_roots n_q_roots c_q_roots) q.roots) := fun W ho => RR_q_roots.out.keep RootC.keep (Kp.of0 (HOB.out.same ho))
 clear RR_q_roots
 clear HH_q
 rw [N_x_packs.out] at hlen
 have fst := fieldP
 obtain ⟨k0, k1, k2⟩ := HBox.out W0 (Only.refl _ _)
 by_cases q1 : 8 < n_x_packs
 ·rw [hW0] at k0 k1 k2
  go_enter Tryz.func31, Tryz.ntmps31
  go_wp2_with fail
  go_ret
  rw [← hW0]
  exact BoolEnd.mk _ rfl (fun h => by first | cases h | (simp at h; omega)) HOB.out
 ·rw [hW0] at k0 k1 k2
  go_enter Tryz.func31, Tryz.ntmps31
  go_wp2_with fail
  rw [← hW0] at k0 k1 k2 ⊢
  clear hW0
  refine (Recipe9_any (HK_x.out W0 (Only.refl _ _)) (by rw [N_x_packs.out]; exact hlen)).mono ?_
  rintro e w2 ⟨c2, l2, rfl, hf2, O1⟩
  have HO2 := Lib.hid (O1)
  clear O1 k0 k1 k2
  obtain ⟨k0, k1, k2⟩ := HBox.out w2 HO2.out
  by_cases c0 : c2 = 0
  ·subst c0
   have hh2 := hf2 rfl
   clear hf2
   go_wp2_with fail
   refine (Request9_any (HK_x.out w2 HO2.out) (HK_q.out w2 HO2.out) (by rw [N_x_packs.out]; exact hlen)).mono ?_
   rintro e w3 ⟨c3, l3, rfl, hf3, O1⟩
   have HO3 := Lib.hid (HO2.out.same O1)
   clear O1 k0 k1 k2
   obtain ⟨k0, k1, k2⟩ := HBox.out w3 HO3.out
   by_cases c0 : c3 = 0
   ·subst c0
    have hh3 := hf3 rfl
    clear hf3
    go_wp2_with fail
    go_ret
    exact BoolEnd.mk _ rfl (fun _ => ⟨by rw [N_x_packs.out]; omega, hh2, hh3⟩) (HOB.out.same HO3.out)
   ·have c13 : ((c3 : Int) == 0) = false := by rw [beq_eq_false_iff_ne]; exact c0
    go_wp2_with fail
    go_ret
    exact BoolEnd.mk _ rfl (fun h => by first | cases h | (simp at h; omega)) (HOB.out.same HO3.out)
  ·have c12 : ((c2 : Int) == 0) = false := by rw [beq_eq_false_iff_ne]; exact c0
   go_wp2_with fail
   go_ret
   exact BoolEnd.mk _ rfl (fun h => by first | cases h | (simp at h; omega)) (HOB.out.same HO2.out)
set_option maxRecDepth 100000 in
set_option maxHeartbeats 4000000 in
theorem GreatL13_any {csx : List Value} {x : RecD} (hx : RecC B w csx x) {csq : List Value} {q : ReqD} (hq : ReqC B w csq q) :
  Calls Tryz.prog 7 #[.agg csx.toArray, .agg csq.toArray] w fun e w' => BoolEnd w w' e (SmallRec x ∧ q.roots.length ≤ 40 ∧ SmallCh x q) := by
 have HH_x := Lib.hid hx
 obtain ⟨u1, u2, rfl, r1, r2⟩ := hx
 obtain ⟨a_x_packs, c_x_packs, rfl, g_x_packs, h_x_packs⟩ := r1.shape
 obtain ⟨n_x_packs, e1⟩ : ∃ n, x.packs.length = n := ⟨_, rfl⟩
 have N_x_packs := Lib.hid e1
 obtain ⟨a_x_prefs, c_x_prefs, rfl, g_x_prefs, h_x_prefs⟩ := r2.shape
 obtain ⟨n_x_prefs, e2⟩ : ∃ n, x.prefs.length = n := ⟨_, rfl⟩
 have N_x_prefs := Lib.hid e2
 rw [e1, e2] at HH_x
 rw [e1] at r1 g_x_packs
 have RR_x_packs := Lib.hid r1
 rw [e2] at r2 g_x_prefs
 have RR_x_prefs := Lib.hid r2
 rw [e1, e2]
 clear e1 e2 r1 r2
 have HH_q := Lib.hid hq
 obtain ⟨u1, rfl, r1⟩ := hq
 obtain ⟨a_q_roots, c_q_roots, rfl, g_q_roots, h_q_roots⟩ := r1.shape
 obtain ⟨n_q_roots, e1⟩ : ∃ n, q.roots.length = n := ⟨_, rfl⟩
 have N_q_roots := Lib.hid e1
 rw [e1] at HH_q
 rw [e1] at r1 g_q_roots
 have RR_q_roots := Lib.hid r1
 rw [e1]
 clear e1 r1
 obtain ⟨W0, hW0⟩ : ∃ W0, W0 = ((w.alloc (.cells #[.slice a_x_packs n_x_packs c_x_packs, .slice a_x_prefs n_x_prefs c_x_prefs] 25)).alloc (.cells #[.slice a_q_roots n_q_roots c_q_roots] 28)) := ⟨_, rfl⟩
 have HOB : Hid (Only (fun _ => False) w W0) := by rw [hW0]; exact ((Only.refl _ _).alloc _).alloc _
 have HSz : Hid (W0.heap.size = w.heap.size + 2) := by rw [hW0]; simp [Hid]
 have HBox : Hid (∀ W, Only (fun _ => False) W0 W → W.cell? ⟨w.heap.size, 0, none⟩ = some (.slice a_x_packs n_x_packs c_x_packs) ∧ W.cell? ⟨w.heap.size, 1, none⟩ = some (.slice a_x_prefs n_x_prefs c_x_prefs) ∧ W.cell? ⟨w.heap.size + 1, 0, none⟩ = some (.slice a_q_roots n_q_roots c_q_roots)) := fun W ho => by
  have b0 : W0.heap[w.heap.size]? = some (.cells #[.slice a_x_packs n_x_packs c_x_packs, .slice a_x_prefs n_x_prefs c_x_prefs] 25) := by rw [hW0]; exact alloc_block (alloc_at rfl) _
  have d0 := only_block b0 ho (fun f => f)
  have b1 : W0.heap[w.heap.size + 1]? = some (.cells #[.slice a_q_roots n_q_roots c_q_roots] 28) := by rw [hW0]; exact alloc_at (by simp)
  have d1 := only_block b1 ho (fun f => f)
  exact ⟨by rw [cell_block d0]; rfl, by rw [cell_block d0]; rfl, by rw [cell_block d1]; rfl⟩
 have HK_x : Hid (∀ W, Only (fun _ => False) W0 W → RecC B W [.slice a_x_packs n_x_packs c_x_packs, .slice a_x_prefs n_x_prefs c_x_prefs] x) := fun W ho => RecC.keep HH_x.out (Kp.of0 (HOB.out.same ho) : Kp B w W)
 have HR_x_packs : Hid (∀ W, Only (fun _ => False) W0 W → RowT 8 PackC B W (.slice a_x_packs n_x_packs c_x_packs) x.packs) := fun W ho => RR_x_packs.out.keep PackC.keep (Kp.of0 (HOB.out.same ho))
 clear RR_x_packs
 have HR_x_prefs : Hid (∀ W, Only (fun _ => False) W0 W → RowT 3 PrefC B W (.slice a_x_prefs n_x_prefs c_x_prefs) x.prefs) := fun W ho => RR_x_prefs.out.keep PrefC.keep (Kp.of0 (HOB.out.same ho))
 clear RR_x_prefs
 clear HH_x
 have HK_q : Hid (∀ W, Only (fun _ => False) W0 W → ReqC B W [.slice a_q_roots n_q_roots c_q_roots] q) := fun W ho => ReqC.keep HH_q.out (Kp.of0 (HOB.out.same ho) : Kp B w W)
 have HR_q_roots : Hid (∀ W, Only (fun _ => False) W0 W → RowT 4 RootC B W (.slice a_q_roots n_q_roots c_q_roots) q.roots) := fun W ho => RR_q_roots.out.keep RootC.keep (Kp.of0 (HOB.out.same ho))
 clear RR_q_roots
 clear HH_q
 obtain ⟨k0, k1, k2⟩ := HBox.out W0 (Only.refl _ _)
 rw [hW0] at k0 k1 k2
 go_enter Tryz.func7, Tryz.ntmps7
 go_wp2_with fail
 rw [← hW0] at k0 k1 k2 ⊢
 clear hW0
 refine (Great7_any (HK_x.out W0 (Only.refl _ _))).mono ?_
 rintro e w2 ⟨b2, rfl, hf2, O1⟩
 have HO2 := Lib.hid (O1)
 clear O1 k0 k1 k2
 obtain ⟨k0, k1, k2⟩ := HBox.out w2 HO2.out
 cases b2 with
 | true =>
  go_wp2_with fail
  go_ret
  exact BoolEnd.mk _ rfl (fun h => by first | cases h | (simp at h; omega)) (HOB.out.same HO2.out)
 | false =>
  have hh2 := hf2 rfl
  clear hf2
  go_wp2_with fail
  refine (Great8_any (HK_q.out w2 HO2.out)).mono ?_
  rintro e w3 ⟨b3, rfl, hf3, O1⟩
  have HO3 := Lib.hid (HO2.out.same O1)
  clear O1 k0 k1 k2
  obtain ⟨k0, k1, k2⟩ := HBox.out w3 HO3.out
  cases b3 with
  | true =>
   go_wp2_with fail
   go_ret
   exact BoolEnd.mk _ rfl (fun h => by first | cases h | (simp at h; omega)) (HOB.out.same HO3.out)
  | false =>
   have hh3 := hf3 rfl
   clear hf3
   go_wp2_with fail
   refine (Great13_any (HK_x.out w3 HO3.out) (HK_q.out w3 HO3.out) (by have := hh2.packs; omega)).mono ?_
   rintro e w4 ⟨b4, rfl, hf4, O1⟩
   have HO4 := Lib.hid (HO3.out.same O1)
   clear O1 k0 k1 k2
   obtain ⟨k0, k1, k2⟩ := HBox.out w4 HO4.out
   cases b4 with
   | true =>
    go_wp2_with fail
    go_ret
    exact BoolEnd.mk _ rfl (fun h => by first | cases h | (simp at h; omega)) (HOB.out.same HO4.out)
   | false =>
    have hh4 := hf4 rfl
    clear hf4
    go_wp2_with fail
    go_ret
    exact BoolEnd.mk _ rfl (fun _ => ⟨hh2, by rw [← N_q_roots.out]; exact hh3, hh4⟩) (HOB.out.same HO4.out)
end
end Go.Proofs.YtbapkcnfacklaaaGreat

/- The document's checks: prefer. Printed by gen_rf7.py. -/
import Derived.Test.YtbapkcnfacklaaaGreatRf6
import Derived.Test.YtbapkcnfacklaaaGreatRegion5
import Derived.Deep.QuietTactic
import Derived.BigQuiet
set_option linter.unusedVariables false
namespace Go.Proofs.YtbapkcnfacklaaaGreat
open Go.RowKit
section
variable {w w' : World} {B : Nat}
attribute [local irreducible] wpQuiet
set_option maxRecDepth 100000 in
set_option maxHeartbeats 4000000 in
theorem Prefer9_any {csx : List Value} {x : RecD} (hx : RecC B w csx x) (hlen : x.packs.length ≤ 1000000) {i : Nat} (hi : i < x.prefs.length) :
  Calls Tryz.prog 75 #[.agg csx.toArray, .int .i64 (i : Int)] w fun e w' => SomeBool w w' e := by
 have HH_x := Lib.hid hx
 obtain ⟨u1, u2, rfl, r1, r2⟩ := hx
 obtain ⟨a_x_packs, c_x_packs, rfl, g_x_packs, h_x_packs⟩ := r1.shape
 obtain ⟨n_x_packs, e1⟩ : ∃ n, x.packs.length = n := ⟨_, rfl⟩
 have N_x_packs := Lib.hid e1
 obtain ⟨a_x_prefs, c_x_prefs, rfl, g_x_prefs, h_x_prefs⟩ := r2.shape
 obtain ⟨n_x_prefs, e2⟩ : ∃ n, x.prefs.length = n := ⟨_, rfl⟩
 have N_x_prefs := Lib.hid e2
 rw [e1, e2] at HH_x
 rw [e1] at r1 g_x_packs
 have RR_x_packs := Lib.hid r1
 rw [e2] at r2 g_x_prefs
 have RR_x_prefs := Lib.hid r2
 rw [e1, e2]
 clear e1 e2 r1 r2
 obtain ⟨W0, hW0⟩ : ∃ W0, W0 = (w.alloc (.cells #[.slice a_x_packs n_x_packs c_x_packs, .slice a_x_prefs n_x_prefs c_x_prefs] 25)) := ⟨_, rfl⟩
 have HOB : Hid (Only (fun _ => False) w W0) := by rw [hW0]; exact (Only.refl _ _).alloc _
 have HSz : Hid (W0.heap.size = w.heap.size + 1) := by rw [hW0]; simp [Hid]
 have HBox : Hid (∀ W, Only (fun _ => False) W0 W → W.cell? ⟨w.heap.size, 0, none⟩ = some (.slice a_x_packs n_x_packs c_x_packs) ∧ W.cell? ⟨w.heap.size, 1, none⟩ = some (.slice a_x_prefs n_x_prefs c_x_prefs)) := fun W ho => by
  have b0 : W0.heap[w.heap.size]? = some (.cells #[.slice a_x_packs n_x_packs c_x_packs, .slice a_x_prefs n_x_prefs c_x_prefs] 25) := by rw [hW0]; exact alloc_at rfl
  have d0 := only_block b0 ho (fun f => f)
  exact ⟨by rw [cell_block d0]; rfl, by rw [cell_block d0]; rfl⟩
 have HK_x : Hid (∀ W, Only (fun _ => False) W0 W → RecC B W [.slice a_x_packs n_x_packs c_x_packs, .slice a_x_prefs n_x_prefs c_x_prefs] x) := fun W ho => RecC.keep HH_x.out (Kp.of0 (HOB.out.same ho) : Kp B w W)
 have HR_x_packs : Hid (∀ W, Only (fun _ => False) W0 W → RowT 8 PackC B W (.slice a_x_packs n_x_packs c_x_packs) x.packs) := fun W ho => RR_x_packs.out.keep PackC.keep (Kp.of0 (HOB.out.same ho))
 clear RR_x_packs
 have HR_x_prefs : Hid (∀ W, Only (fun _ => False) W0 W → RowT 3 PrefC B W (.slice a_x_prefs n_x_prefs c_x_prefs) x.prefs) := fun W ho => RR_x_prefs.out.keep PrefC.keep (Kp.of0 (HOB.out.same ho))
 clear RR_x_prefs
 clear HH_x
 rw [N_x_packs.out] at hlen
 rw [N_x_prefs.out] at hi
 obtain ⟨yy, hxy⟩ : ∃ y, x.prefs[i]? = some y := ⟨_, List.getElem?_eq_getElem (by rw [N_x_prefs.out]; omega)⟩
 obtain ⟨bky, offy, ay1, ny1, cy1, hey, N0y1, oky1, iny1, HE0y⟩ := PrefC_at (HR_x_prefs.out W0 (Only.refl _ _)) hxy
 first
  | subst hey
  | (simp only [Option.some.injEq, Addr.mk.injEq, and_true] at hey; obtain ⟨rfl, rfl⟩ := hey)
 have Ny1 := Lib.hid N0y1
 have HEy := Lib.hid HE0y
 have HXy := Lib.hid hxy
 clear HE0y hxy N0y1
 have HRy1 : Hid (∀ W, Only (fun _ => False) W0 W → RowT 1 StrC B W (.slice ay1 ny1 cy1) yy.names) := fun W ho => (HEy.out W ho).2.1
 have HCy : Hid (∀ W, Only (fun _ => False) W0 W → PrefC B W [.string yy.virtual, .slice ay1 ny1 cy1, .int .i64 yy.line] yy) := fun W ho => (HEy.out W ho).2.2
 have hbn : ny1 ≤ 9223372036854775807 := by
  obtain ⟨_, _, _, g1, g2⟩ := (HRy1.out W0 (Only.refl _ _)).shape
  rw [Ny1.out] at g1
  omega
 have hry := Lib.hid (HEy.out W0 (Only.refl _ _)).1
 obtain ⟨W1, hW1⟩ : ∃ W, W = W0.alloc (.cells #[.string yy.virtual, .slice ay1 ny1 cy1, .int .i64 yy.line] 118) := ⟨_, rfl⟩
 have HO1 : Hid (Only (fun _ => False) W0 W1) := by rw [hW1]; exact (Only.refl _ _).alloc _
 have HBd : Hid (∀ W, Only (fun _ => False) W1 W → W.cell? ⟨(w.heap.size + 1), 0, none⟩ = some (.string yy.virtual) ∧ W.cell? ⟨(w.heap.size + 1), 1, none⟩ = some (.slice ay1 ny1 cy1) ∧ W.cell? ⟨(w.heap.size + 1), 2, none⟩ = some (.int .i64 yy.line)) := fun W ho => by
  have b0 : W1.heap[(w.heap.size + 1)]? = some (.cells #[.string yy.virtual, .slice ay1 ny1 cy1, .int .i64 yy.line] 118) := by rw [hW1, ← HSz.out]; exact heap_alloc_new W0 _
  have b1 := only_block b0 ho (fun f => f)
  exact ⟨by rw [cell_block b1]; rfl, by rw [cell_block b1]; rfl, by rw [cell_block b1]; rfl⟩
 rw [hW0] at hry
 go_enter Tryz.func75, Tryz.ntmps75
 go_wp2_with (refine wpList_load_mid rfl 118 (.tmp 12) rfl bky (offy + i * 3) rfl _ _ hry.out Tryz.underlying118 rfl (by kernel_rfl) ?_)
 rw [← hW0, ← hW1]
 clear hW0 hW1 hry
 have HOC : Hid (Only (fun _ => False) W1 W1) := Only.refl _ _
 go_wp2_with fail
 go_loopw [6] (fun vk wrk => Hid (Only (fun _ => False) W1 wrk) ∧ ∃ k : Nat, vk = .int .i64 k ∧ k ≤ i) (fun v _ => i - (RowKit.intOf v).toNat)
 case atStart => exact ⟨HOC, 0, rfl, Nat.zero_le _⟩
 case round =>
  obtain ⟨wrk, rfl⟩ : ∃ W, W = wr := ⟨_, rfl⟩
  clear HOC
  obtain ⟨HPk, k, rfl, hk⟩ := hrel
  obtain ⟨k0, k1⟩ := HBox.out wrk (HO1.out.same HPk.out)
  obtain ⟨d0, d1, d2⟩ := HBd.out wrk HPk.out
  by_cases ck : k < i
  ·have ewi : IntKind.i64.wrap ((k : Int) + 1) = (k : Int) + 1 := by rw [IntKind.wrap_i64]; omega
   obtain ⟨yz, hxz⟩ : ∃ y, x.prefs[k]? = some y := ⟨_, List.getElem?_eq_getElem (by rw [N_x_prefs.out]; omega)⟩
   obtain ⟨bkz, offz, az1, nz1, cz1, hez, N0z1, okz1, inz1, HE0z⟩ := PrefC_at (HR_x_prefs.out W0 (Only.refl _ _)) hxz
   first
    | subst hez
    | (simp only [Option.some.injEq, Addr.mk.injEq, and_true] at hez; obtain ⟨rfl, rfl⟩ := hez)
   have Nz1 := Lib.hid N0z1
   have HEz := Lib.hid HE0z
   have HXz := Lib.hid hxz
   clear HE0z hxz N0z1
   have HRz1 : Hid (∀ W, Only (fun _ => False) W0 W → RowT 1 StrC B W (.slice az1 nz1 cz1) yz.names) := fun W ho => (HEz.out W ho).2.1
   have HCz : Hid (∀ W, Only (fun _ => False) W0 W → PrefC B W [.string yz.virtual, .slice az1 nz1 cz1, .int .i64 yz.line] yz) := fun W ho => (HEz.out W ho).2.2
   have hrz := (HEz.out wrk (HO1.out.same HPk.out)).1
   have gz0 := hrz 0 _ rfl
   rw [Nat.add_zero] at gz0
   clear hrz
   have hbd := bytes_dec yz.virtual yy.virtual
   obtain ⟨bb, hbb⟩ : ∃ b, decide (yz.virtual = yy.virtual) = b := ⟨_, rfl⟩
   rw [hbb] at hbd
   clear hbb
   go_wp2_with fail
   go_quiet (fail)
   cases bb with
   | true =>
    go_wp2_with fail
    go_ret
    exact SomeBool.mk _ rfl (HOB.out.same (HO1.out.same (HPk.out.drewN _)))
   | false =>
    go_wp2_with fail
    go_roundw
    case rel => exact ⟨show Hid _ from (HPk.out.drewN _), k + 1, by first | rfl | go_num, by omega⟩
    case measure => simp [RowKit.intOf] <;> omega
  ·obtain rfl : i = k := by omega
   have HOC := HPk
   go_wp2_with fail
   clear k0 k1 d0 d1 d2
   go_loopw [31] (fun vm wrm => Hid (Only (fun _ => False) W1 wrm) ∧ ∃ m : Nat, vm = .int .i64 m ∧ m ≤ ny1) (fun v _ => ny1 - (RowKit.intOf v).toNat)
   case atStart => exact ⟨HOC, 0, rfl, Nat.zero_le _⟩
   case round =>
    obtain ⟨wrm, rfl⟩ : ∃ W, W = wr := ⟨_, rfl⟩
    clear HOC
    obtain ⟨HPm, m, rfl, hm⟩ := hrel
    obtain ⟨k0, k1⟩ := HBox.out wrm (HO1.out.same HPm.out)
    obtain ⟨d0, d1, d2⟩ := HBd.out wrm HPm.out
    by_cases cm : m < ny1
    ·have ewi : IntKind.i64.wrap ((m : Int) + 1) = (m : Int) + 1 := by rw [IntKind.wrap_i64]; omega
     obtain ⟨ys, hxs⟩ : ∃ y, yy.names[m]? = some y := ⟨_, List.getElem?_eq_getElem (by rw [Ny1.out]; omega)⟩
     obtain ⟨bks, offs, hes, oks1, HE0s⟩ := StrC_at (HRy1.out W0 (Only.refl _ _)) hxs
     first
      | subst hes
      | (simp only [Option.some.injEq, Addr.mk.injEq, and_true] at hes; obtain ⟨rfl, rfl⟩ := hes)
     have HEs := Lib.hid HE0s
     have HXs := Lib.hid hxs
     clear HE0s hxs
     have HCs : Hid (∀ W, Only (fun _ => False) W0 W → StrC B W [.string ys] ys) := fun W ho => (HEs.out W ho).2
     obtain ⟨f, hf⟩ : ∃ f, x.find ys = f := ⟨_, rfl⟩
     have hflt := x.find_lt ys
     rw [hf, N_x_packs.out] at hflt
     have HF : Hid (∀ W, Only (fun _ => False) W0 W → Calls Tryz.prog 82 #[.agg #[.slice a_x_packs n_x_packs c_x_packs, .slice (some ⟨bky, offy, none⟩) n_x_prefs c_x_prefs], .string ys] W fun e w' => e = .returned (.int .i64 f) ∧ Only (fun _ => False) W w') := fun W hW => by rw [← hf]; exact Find9_any (HK_x.out W hW) ys
     clear hf
     go_wp2_with fail
     clear k0 k1 d0 d1 d2
     refine wp_region_Q (fun w' => Only (fun _ => False) W1 w') (by kernel_rfl) (by kernel_rfl) (by exact (HPm.out).drew) ?_
     refine wpQ_val (v := ?_) (by rfl) ?_ ?_
     rotate_left
     ·(intro w hSw; (try dsimp only at hSw); obtain ⟨k0, k1⟩ := HBox.out w (HO1.out.same hSw); obtain ⟨d0, d1, d2⟩ := HBd.out w hSw; have hrs := (HEs.out w (HO1.out.same hSw)).1; have gs0 := hrs 0 _ rfl; rw [Nat.add_zero] at gs0; rw [Nat.mul_one] at gs0; clear hrs; go_simp <;> (try with_reducible rfl))
     try simp only [Act.put, zq4, zq5, zq6]
     refine wpQ_val (v := ?_) (by rfl) ?_ ?_
     rotate_left
     ·(intro w hSw; (try dsimp only at hSw); go_simp <;> (try with_reducible rfl))
     try simp only [Act.put, zq4, zq5, zq6]
     refine wpQ_val (v := ?_) (by rfl) ?_ ?_
     rotate_left
     ·(intro w hSw; (try dsimp only at hSw); obtain ⟨k0, k1⟩ := HBox.out w (HO1.out.same hSw); obtain ⟨d0, d1, d2⟩ := HBd.out w hSw; have hrs := (HEs.out w (HO1.out.same hSw)).1; have gs0 := hrs 0 _ rfl; rw [Nat.add_zero] at gs0; rw [Nat.mul_one] at gs0; clear hrs; go_simp <;> (try with_reducible rfl))
     try simp only [Act.put, zq4, zq5, zq6]
     refine wpQ_val (v := ?_) (by rfl) ?_ ?_
     rotate_left
     ·(intro w hSw; (try dsimp only at hSw); go_simp <;> (try with_reducible rfl))
     try simp only [Act.put, zq4, zq5, zq6]
     refine wpQ_val (v := ?_) (by rfl) ?_ ?_
     rotate_left
     ·(intro w hSw; (try dsimp only at hSw); go_simp <;> (try with_reducible rfl))
     try simp only [Act.put, zq4, zq5, zq6]
     refine wpQ_val (v := ?_) (by rfl) ?_ ?_
     rotate_left
     ·(intro w hSw; (try dsimp only at hSw); obtain ⟨k0, k1⟩ := HBox.out w (HO1.out.same hSw); obtain ⟨d0, d1, d2⟩ := HBd.out w hSw; have hrs := (HEs.out w (HO1.out.same hSw)).1; have gs0 := hrs 0 _ rfl; rw [Nat.add_zero] at gs0; rw [Nat.mul_one] at gs0; clear hrs; go_simp <;> (try with_reducible rfl))
     try simp only [Act.put, zq4, zq5, zq6]
     refine wpQ_call (v := .int .i64 f) (f := 82) (args := #[.agg #[.slice a_x_packs n_x_packs c_x_packs, .slice (some ⟨bky, offy, none⟩) n_x_prefs c_x_prefs], .string ys]) (by rfl) ?_ ?_ ?_
     ·(intro w; go_simp <;> (try with_reducible rfl))
     ·(intro w hSw; exact (HF.out w (HO1.out.same hSw)).mono fun _ _ ⟨he, ho⟩ => ⟨he, hSw.same ho⟩)
     try simp only [Act.put, zq4, zq5, zq6]
     refine wpQ_val (v := ?_) (by rfl) ?_ ?_
     rotate_left
     ·(intro w hSw; (try dsimp only at hSw); go_simp <;> (try with_reducible rfl))
     try simp only [Act.put, zq4, zq5, zq6]
     refine wpQuiet_nil ?_
     (intro w9 hw9; have HO9 := Lib.hid hw9; clear hw9)
     clear HF
     go_wp2_with fail
     by_cases fl : f < 0
     ·refine wp_region_Q (fun w' => Only (fun _ => False) W1 w') (by kernel_rfl) (by kernel_rfl) (by exact (HO9.out).drew) ?_
      refine wpQ_val (v := ?_) (by rfl) ?_ ?_
      rotate_left
      ·(intro w hSw; (try dsimp only at hSw); go_simp <;> (try with_reducible rfl))
      try simp only [Act.put, zq4, zq5, zq6]
      refine wpQ_val (v := ?_) (by rfl) ?_ ?_
      rotate_left
      ·(intro w hSw; (try dsimp only at hSw); go_simp <;> (try with_reducible rfl))
      try simp only [Act.put, zq4, zq5, zq6]
      refine wpQ_val (v := ?_) (by rfl) ?_ ?_
      rotate_left
      ·(intro w hSw; (try dsimp only at hSw); go_simp <;> (try with_reducible rfl))
      try simp only [Act.put, zq4, zq5, zq6]
      refine wpQ_skip (by kernel_rfl) ?_
      try simp only [Act.put, zq4, zq5, zq6]
      refine wpQ_skip (by kernel_rfl) ?_
      try simp only [Act.put, zq4, zq5, zq6]
      refine wpQ_skip (by kernel_rfl) ?_
      try simp only [Act.put, zq4, zq5, zq6]
      refine wpQ_skip (by kernel_rfl) ?_
      try simp only [Act.put, zq4, zq5, zq6]
      refine wpQ_skip (by kernel_rfl) ?_
      try simp only [Act.put, zq4, zq5, zq6]
      refine wpQ_skip (by kernel_rfl) ?_
      try simp only [Act.put, zq4, zq5, zq6]
      refine wpQ_skip (by kernel_rfl) ?_
      try simp only [Act.put, zq4, zq5, zq6]
      refine wpQ_skip (by kernel_rfl) ?_
      try simp only [Act.put, zq4, zq5, zq6]
      refine wpQ_skip (by kernel_rfl) ?_
      try simp only [Act.put, zq4, zq5, zq6]
      refine wpQ_skip (by kernel_rfl) ?_
      try simp only [Act.put, zq4, zq5, zq6]
      refine wpQ_val (v := ?_) (by rfl) ?_ ?_
      rotate_left
      ·(intro w hSw; (try dsimp only at hSw); go_simp <;> (try with_reducible rfl))
      try simp only [Act.put, zq4, zq5, zq6]
      refine wpQuiet_nil ?_
      (intro w8 hw8; have HO8 := Lib.hid hw8; clear hw8)
      go_wp2_with fail
      go_ret
      exact SomeBool.mk _ rfl (HOB.out.same (HO1.out.same HO8.out))
     ·obtain ⟨fn, rfl⟩ : ∃ i : Nat, f = i := ⟨f.toNat, by omega⟩
      obtain ⟨yv, hxv⟩ : ∃ y, x.packs[fn]? = some y := ⟨_, List.getElem?_eq_getElem (by rw [N_x_packs.out]; omega)⟩
      obtain ⟨bkv, offv, av1, nv1, cv1, av2, nv2, cv2, av3, nv3, cv3, av4, nv4, cv4, av5, nv5, cv5, av6, nv6, cv6, hev, N0v1, N0v2, N0v3, N0v4, N0v5, N0v6, okv1, inv1, HE0v⟩ := PackC_at (HR_x_packs.out W0 (Only.refl _ _)) hxv
      first
       | subst hev
       | (simp only [Option.some.injEq, Addr.mk.injEq, and_true] at hev; obtain ⟨rfl, rfl⟩ := hev)
      have Nv1 := Lib.hid N0v1
      have Nv2 := Lib.hid N0v2
      have Nv3 := Lib.hid N0v3
      have Nv4 := Lib.hid N0v4
      have Nv5 := Lib.hid N0v5
      have Nv6 := Lib.hid N0v6
      have HEv := Lib.hid HE0v
      have HXv := Lib.hid hxv
      clear HE0v hxv N0v1 N0v2 N0v3 N0v4 N0v5 N0v6
      have HRv1 : Hid (∀ W, Only (fun _ => False) W0 W → RowT 2 RelC B W (.slice av1 nv1 cv1) yv.rels) := fun W ho => (HEv.out W ho).2.1
      have HRv2 : Hid (∀ W, Only (fun _ => False) W0 W → RowT 2 VarC B W (.slice av2 nv2 cv2) yv.vars) := fun W ho => (HEv.out W ho).2.2.1
      have HRv3 : Hid (∀ W, Only (fun _ => False) W0 W → RowT 1 StrC B W (.slice av3 nv3 cv3) yv.provides) := fun W ho => (HEv.out W ho).2.2.2.1
      have HRv4 : Hid (∀ W, Only (fun _ => False) W0 W → RowT 7 DepC B W (.slice av4 nv4 cv4) yv.deps) := fun W ho => (HEv.out W ho).2.2.2.2.1
      have HRv5 : Hid (∀ W, Only (fun _ => False) W0 W → RowT 7 ConC B W (.slice av5 nv5 cv5) yv.cons) := fun W ho => (HEv.out W ho).2.2.2.2.2.1
      have HRv6 : Hid (∀ W, Only (fun _ => False) W0 W → RowT 1 StrC B W (.slice av6 nv6 cv6) yv.files) := fun W ho => (HEv.out W ho).2.2.2.2.2.2.1
      have HCv : Hid (∀ W, Only (fun _ => False) W0 W → PackC B W [.string yv.name, .int .i64 yv.line, .slice av1 nv1 cv1, .slice av2 nv2 cv2, .slice av3 nv3 cv3, .slice av4 nv4 cv4, .slice av5 nv5 cv5, .slice av6 nv6 cv6] yv) := fun W ho => (HEv.out W ho).2.2.2.2.2.2.2
      obtain ⟨hb, hhb⟩ : ∃ b, hasS yv.provides yy.virtual = b := ⟨_, rfl⟩
      have HHas : Hid (∀ W, Only (fun _ => False) W0 W → Calls Tryz.prog 96 #[.slice av3 nv3 cv3, .string yy.virtual] W fun e w' => e = .returned (.bool hb) ∧ Only (fun _ => False) W w') := fun W hW => by rw [← hhb]; exact Has9_any (HRv3.out W hW) _
      clear hhb
      refine wp_region_Q (fun w' => Only (fun _ => False) W1 w') (by kernel_rfl) (by kernel_rfl) (by exact (HO9.out).drew) ?_
      refine wpQ_val (v := ?_) (by rfl) ?_ ?_
      rotate_left
      ·(intro w hSw; (try dsimp only at hSw); go_simp <;> (try with_reducible rfl))
      try simp only [Act.put, zq4, zq5, zq6]
      refine wpQ_val (v := ?_) (by rfl) ?_ ?_
      rotate_left
      ·(intro w hSw; (try dsimp only at hSw); go_simp <;> (try with_reducible rfl))
      try simp only [Act.put, zq4, zq5, zq6]
      refine wpQ_val (v := ?_) (by rfl) ?_ ?_
      rotate_left
      ·(intro w hSw; (try dsimp only at hSw); go_simp <;> (try with_reducible rfl))
      try simp only [Act.put, zq4, zq5, zq6]
      refine wpQ_val (v := ?_) (by rfl) ?_ ?_
      rotate_left
      ·(intro w hSw; (try dsimp only at hSw); go_simp <;> (try with_reducible rfl))
      try simp only [Act.put, zq4, zq5, zq6]
      refine wpQ_val (v := ?_) (by rfl) ?_ ?_
      rotate_left
      ·(intro w hSw; (try dsimp only at hSw); obtain ⟨k0, k1⟩ := HBox.out w (HO1.out.same hSw); obtain ⟨d0, d1, d2⟩ := HBd.out w hSw; have hrv := (HEv.out w (HO1.out.same hSw)).1; have gv4 := hrv 4 _ rfl; clear hrv; go_simp <;> (try with_reducible rfl))
      try simp only [Act.put, zq4, zq5, zq6]
      refine wpQ_val (v := ?_) (by rfl) ?_ ?_
      rotate_left
      ·(intro w hSw; (try dsimp only at hSw); go_simp <;> (try with_reducible rfl))
      try simp only [Act.put, zq4, zq5, zq6]
      refine wpQ_val (v := ?_) (by rfl) ?_ ?_
      rotate_left
      ·(intro w hSw; (try dsimp only at hSw); go_simp <;> (try with_reducible rfl))
      try simp only [Act.put, zq4, zq5, zq6]
      refine wpQ_val (v := ?_) (by rfl) ?_ ?_
      rotate_left
      ·(intro w hSw; (try dsimp only at hSw); go_simp <;> (try with_reducible rfl))
      try simp only [Act.put, zq4, zq5, zq6]
      refine wpQ_val (v := ?_) (by rfl) ?_ ?_
      rotate_left
      ·(intro w hSw; (try dsimp only at hSw); obtain ⟨k0, k1⟩ := HBox.out w (HO1.out.same hSw); obtain ⟨d0, d1, d2⟩ := HBd.out w hSw; have hrv := (HEv.out w (HO1.out.same hSw)).1; have gv4 := hrv 4 _ rfl; clear hrv; go_simp <;> (try with_reducible rfl))
      try simp only [Act.put, zq4, zq5, zq6]
      refine wpQ_val (v := ?_) (by rfl) ?_ ?_
      rotate_left
      ·(intro w hSw; (try dsimp only at hSw); go_simp <;> (try with_reducible rfl))
      try simp only [Act.put, zq4, zq5, zq6]
      refine wpQ_val (v := ?_) (by rfl) ?_ ?_
      rotate_left
      ·(intro w hSw; (try dsimp only at hSw); obtain ⟨k0, k1⟩ := HBox.out w (HO1.out.same hSw); obtain ⟨d0, d1, d2⟩ := HBd.out w hSw; have hrv := (HEv.out w (HO1.out.same hSw)).1; have gv4 := hrv 4 _ rfl; clear hrv; go_simp <;> (try with_reducible rfl))
      try simp only [Act.put, zq4, zq5, zq6]
      refine wpQ_call (v := .bool hb) (f := 96) (args := #[.slice av3 nv3 cv3, .string yy.virtual]) (by rfl) ?_ ?_ ?_
      ·(intro w; go_simp <;> (try with_reducible rfl))
      ·(intro w hSw; exact (HHas.out w (HO1.out.same hSw)).mono fun _ _ ⟨he, ho⟩ => ⟨he, hSw.same ho⟩)
      try simp only [Act.put, zq4, zq5, zq6]
      refine wpQ_val (v := ?_) (by rfl) ?_ ?_
      rotate_left
      ·(intro w hSw; (try dsimp only at hSw); go_simp <;> (try with_reducible rfl))
      try simp only [Act.put, zq4, zq5, zq6]
      refine wpQ_val (v := ?_) (by rfl) ?_ ?_
      rotate_left
      ·(intro w hSw; (try dsimp only at hSw); go_simp <;> (try with_reducible rfl))
      try simp only [Act.put, zq4, zq5, zq6]
      refine wpQuiet_nil ?_
      (intro w8 hw8; have HO8 := Lib.hid hw8; clear hw8)
      cases hb with
      | true =>
       go_wp2_with fail
       go_roundw
       case rel => exact ⟨HO8, m + 1, by first | rfl | go_num, by omega⟩
       case measure => simp [RowKit.intOf] <;> omega
      | false =>
       go_wp2_with fail
       go_ret
       exact SomeBool.mk _ rfl (HOB.out.same (HO1.out.same HO8.out))
    ·obtain rfl : ny1 = m := by omega
     obtain ⟨vb, hvb⟩ : ∃ f, x.virt yy.virtual = f := ⟨_, rfl⟩
     have HVt : Hid (∀ W, Only (fun _ => False) W0 W → Calls Tryz.prog 88 #[.agg #[.slice a_x_packs n_x_packs c_x_packs, .slice (some ⟨bky, offy, none⟩) n_x_prefs c_x_prefs], .string yy.virtual] W fun e w' => e = .returned (.bool vb) ∧ Only (fun _ => False) W w') := fun W hW => by rw [← hvb]; exact Virtual9_any (HK_x.out W hW) (by rw [N_x_packs.out]; exact hlen) yy.virtual
     clear hvb
     go_wp2_with fail
     refine (HVt.out wrm (HO1.out.same HPm.out)).mono ?_
     rintro e w2 ⟨rfl, O2⟩
     have HP2 := Lib.hid (HPm.out.same O2)
     clear O2 HVt
     clear k0 k1 d0 d1 d2
     obtain ⟨k0, k1⟩ := HBox.out w2 (HO1.out.same HP2.out)
     obtain ⟨d0, d1, d2⟩ := HBd.out w2 HP2.out
     cases vb with
     | false =>
      go_wp2_with fail
      go_ret
      exact SomeBool.mk _ rfl (HOB.out.same (HO1.out.same HP2.out))
     | true =>
      go_wp2_with fail
      refine (Twice_any (HRy1.out w2 (HO1.out.same HP2.out))).mono ?_
      rintro e w3 ⟨bb, rfl, O3⟩
      have HP3 := Lib.hid (HP2.out.same O3)
      clear O3
      cases bb with
      | false =>
       go_wp2_with fail
       go_ret
       exact SomeBool.mk _ rfl (HOB.out.same (HO1.out.same HP3.out))
      | true =>
       go_wp2_with fail
       go_ret
       exact SomeBool.mk _ rfl (HOB.out.same (HO1.out.same HP3.out))
end
end Go.Proofs.YtbapkcnfacklaaaGreat

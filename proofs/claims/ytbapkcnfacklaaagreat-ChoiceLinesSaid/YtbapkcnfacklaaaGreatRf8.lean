/- The document's checks: Recipe, Request. Printed by gen_rf8.py. -/
import Derived.Test.YtbapkcnfacklaaaGreatRfE
set_option linter.unusedVariables false
namespace Go.Proofs.YtbapkcnfacklaaaGreat
open Go.RowKit
section
variable {w w' : World} {B : Nat}
attribute [local irreducible] wpQuiet
def ProbEnd (F : Prop) (w w' : World) (e : Ending) : Prop := ∃ c l : Int, e = .returned (.agg #[.int .u8 c, .int .i64 l]) ∧ (c = 0 → F) ∧ Only (fun _ => False) w w'
theorem ProbEnd.mk {F : Prop} (c l : Int) {w w' : World} {e : Ending} (he : e = .returned (.agg #[.int .u8 c, .int .i64 l])) (hf : c = 0 → F) (ho : Only (fun _ => False) w w') : ProbEnd F w w' e := ⟨c, l, he, hf, ho⟩
theorem wp_store_rowX {P : Program} {o : Oper} {a : Act} {w : World} {K : Act → World → Prop} {Q : Exit → Act → World → Prop} (ty : TypeId) (x y : Operand) (ho : o.op = .store ty x y)
  (g : Nat) (cells : Array Value) (hx : a.eval x = .pointer (some ⟨g, 0, none⟩)) (hy : a.eval y = .agg cells)
  (t : TypeId) (old : Array Value) (hg : w.heap[g]? = some (.cells old t (0, 0))) (hi : (P.info? ty).map (·.size) = some cells.size)
  (hold : old.size = cells.size) (h1 : cells.all (·.oneCell') = true)
  (h : ∀ W3 : World, W3.heap[g]? = some (.cells cells t (0, 0)) → Only (fun k => k = g) w W3 → K (a.put o.dst undef) W3) : o.wp P a w K Q :=
 wp_store_row ty x y ho g cells hx hy t old hg hi hold h1 (h _ (setRow_heap _ _ _ _ _ _ hg) (only_setRow _ _ _))
set_option maxRecDepth 100000 in
set_option maxHeartbeats 4000000 in
theorem Recipe9_any {csx : List Value} {x : RecD} (hx : RecC B w csx x) (hlen : x.packs.length ≤ 1000000) :
  Calls Tryz.prog 51 #[.agg csx.toArray] w fun e w' => ProbEnd (∀ p ∈ x.packs, PackOk p) w w' e := by
 have HH_x := Lib.hid hx
 obtain ⟨u1, u2, rfl, r1, r2⟩ := hx
 obtain ⟨a_x_packs, c_x_packs, rfl, g_x_packs, h_x_packs⟩ := r1.shape
 obtain ⟨n_x_packs, e1⟩ : ∃ n, x.packs.length = n := ⟨_, rfl⟩
 have N_x_packs := Lib.hid e1
 obtain ⟨a_x_prefs, c_x_prefs, rfl, g_x_prefs, h_x_prefs⟩ := r2.shape
 obtain ⟨n_x_prefs, e2⟩ : ∃ n, x.prefs.length = n := ⟨_, rfl⟩
 have N_x_prefs := Lib.hid e2
 rw [e1, e2] at HH_x
 rw [e1] at r1 g_x_packs
 have RR_x_packs := Lib.hid r1
 rw [e2] at r2 g_x_prefs
 have RR_x_prefs := Lib.hid r2
 rw [e1, e2]
 clear e1 e2 r1 r2
 obtain ⟨W0, hW0⟩ : ∃ W0, W0 = (w.alloc (.cells #[.slice a_x_packs n_x_packs c_x_packs, .slice a_x_prefs n_x_prefs c_x_prefs] 25)) := ⟨_, rfl⟩
 have HOB : Hid (Only (fun _ => False) w W0) := by rw [hW0]; exact (Only.refl _ _).alloc _
 have HSz : Hid (W0.heap.size = w.heap.size + 1) := by rw [hW0]; simp [Hid]
 have HBox : Hid (∀ W, Only (fun _ => False) W0 W → W.cell? ⟨w.heap.size, 0, none⟩ = some (.slice a_x_packs n_x_packs c_x_packs) ∧ W.cell? ⟨w.heap.size, 1, none⟩ = some (.slice a_x_prefs n_x_prefs c_x_prefs)) := fun W ho => by
  have b0 : W0.heap[w.heap.size]? = some (.cells #[.slice a_x_packs n_x_packs c_x_packs, .slice a_x_prefs n_x_prefs c_x_prefs] 25) := by rw [hW0]; exact alloc_at rfl
  have d0 := only_block b0 ho (fun f => f)
  exact ⟨by rw [cell_block d0]; rfl, by rw [cell_block d0]; rfl⟩
 have HK_x : Hid (∀ W, Only (fun _ => False) W0 W → RecC B W [.slice a_x_packs n_x_packs c_x_packs, .slice a_x_prefs n_x_prefs c_x_prefs] x) := fun W ho => RecC.keep HH_x.out (Kp.of0 (HOB.out.same ho) : Kp B w W)
 have HR_x_packs : Hid (∀ W, Only (fun _ => False) W0 W → RowT 8 PackC B W (.slice a_x_packs n_x_packs c_x_packs) x.packs) := fun W ho => RR_x_packs.out.keep PackC.keep (Kp.of0 (HOB.out.same ho))
 clear RR_x_packs
 have HR_x_prefs : Hid (∀ W, Only (fun _ => False) W0 W → RowT 3 PrefC B W (.slice a_x_prefs n_x_prefs c_x_prefs) x.prefs) := fun W ho => RR_x_prefs.out.keep PrefC.keep (Kp.of0 (HOB.out.same ho))
 clear RR_x_prefs
 clear HH_x
 rw [N_x_packs.out] at hlen
 obtain ⟨W1, hW1⟩ : ∃ W, W = W0.alloc (.cells #[.int .u8 0, .int .i64 0] 122) := ⟨_, rfl⟩
 have HO1 : Hid (Only (fun _ => False) W0 W1) := by rw [hW1]; exact (Only.refl _ _).alloc _
 have HRr : Hid (∀ W, Only (fun _ => False) W1 W → W.heap[w.heap.size + 1]? = some (.cells #[.int .u8 0, .int .i64 0] 122)) := fun W ho => by
  have b0 : W1.heap[w.heap.size + 1]? = some (.cells #[.int .u8 0, .int .i64 0] 122) := by rw [hW1, ← HSz.out]; exact heap_alloc_new W0 _
  exact only_block b0 ho (fun f => f)
 have HPs : Hid (Only (fun _ => False) W1 W1) := Only.refl _ _
 by_cases q1 : 24 < n_x_packs
 ·obtain ⟨yy, hxy⟩ : ∃ y, x.packs[24]? = some y := ⟨_, List.getElem?_eq_getElem (by rw [N_x_packs.out]; omega)⟩
  obtain ⟨bky, offy, ay1, ny1, cy1, ay2, ny2, cy2, ay3, ny3, cy3, ay4, ny4, cy4, ay5, ny5, cy5, ay6, ny6, cy6, hey, N0y1, N0y2, N0y3, N0y4, N0y5, N0y6, oky1, iny1, HE0y⟩ := PackC_at (HR_x_packs.out W0 (Only.refl _ _)) hxy
  first
   | subst hey
   | (simp only [Option.some.injEq, Addr.mk.injEq, and_true] at hey; obtain ⟨rfl, rfl⟩ := hey)
  have Ny1 := Lib.hid N0y1
  have Ny2 := Lib.hid N0y2
  have Ny3 := Lib.hid N0y3
  have Ny4 := Lib.hid N0y4
  have Ny5 := Lib.hid N0y5
  have Ny6 := Lib.hid N0y6
  have HEy := Lib.hid HE0y
  have HXy := Lib.hid hxy
  clear HE0y hxy N0y1 N0y2 N0y3 N0y4 N0y5 N0y6
  have HRy1 : Hid (∀ W, Only (fun _ => False) W0 W → RowT 2 RelC B W (.slice ay1 ny1 cy1) yy.rels) := fun W ho => (HEy.out W ho).2.1
  have HRy2 : Hid (∀ W, Only (fun _ => False) W0 W → RowT 2 VarC B W (.slice ay2 ny2 cy2) yy.vars) := fun W ho => (HEy.out W ho).2.2.1
  have HRy3 : Hid (∀ W, Only (fun _ => False) W0 W → RowT 1 StrC B W (.slice ay3 ny3 cy3) yy.provides) := fun W ho => (HEy.out W ho).2.2.2.1
  have HRy4 : Hid (∀ W, Only (fun _ => False) W0 W → RowT 7 DepC B W (.slice ay4 ny4 cy4) yy.deps) := fun W ho => (HEy.out W ho).2.2.2.2.1
  have HRy5 : Hid (∀ W, Only (fun _ => False) W0 W → RowT 7 ConC B W (.slice ay5 ny5 cy5) yy.cons) := fun W ho => (HEy.out W ho).2.2.2.2.2.1
  have HRy6 : Hid (∀ W, Only (fun _ => False) W0 W → RowT 1 StrC B W (.slice ay6 ny6 cy6) yy.files) := fun W ho => (HEy.out W ho).2.2.2.2.2.2.1
  have HCy : Hid (∀ W, Only (fun _ => False) W0 W → PackC B W [.string yy.name, .int .i64 yy.line, .slice ay1 ny1 cy1, .slice ay2 ny2 cy2, .slice ay3 ny3 cy3, .slice ay4 ny4 cy4, .slice ay5 ny5 cy5, .slice ay6 ny6 cy6] yy) := fun W ho => (HEy.out W ho).2.2.2.2.2.2.2
  have hry := (HEy.out W1 HO1.out).1
  have gy1 := hry 1 _ rfl
  clear hry
  obtain ⟨k0, k1⟩ := HBox.out W1 (HO1.out.same HPs.out)
  have hz := HRr.out W1 HPs.out
  rw [hW1, hW0] at gy1 k0 k1 hz
  go_enter Tryz.func51, Tryz.ntmps51
  go_wp2_with (refine wpList_store_row rfl 122 (.tmp 2) (.tmp 17) rfl (w.heap.size + 1) #[.int .u8 1, .int .i64 yy.line] rfl rfl 122 #[.int .u8 0, .int .i64 0] hz (by kernel_rfl) rfl (by kernel_rfl) ?_)
  refine ret_prob (p := 2) rfl rfl rfl rfl (setRow_heap _ _ _ _ _ _ hz) ?_
  rw [← hW0, ← hW1]
  exact ProbEnd.mk _ _ rfl (fun h => absurd h (by decide)) ((HOB.out.same (HO1.out.same HPs.out)).trans (only_setRow _ _ _) (fun k hk => .inr (by omega)))
 ·by_cases q2 : 8 < n_x_prefs
  ·obtain ⟨yz, hxz⟩ : ∃ y, x.prefs[8]? = some y := ⟨_, List.getElem?_eq_getElem (by rw [N_x_prefs.out]; omega)⟩
   obtain ⟨bkz, offz, az1, nz1, cz1, hez, N0z1, okz1, inz1, HE0z⟩ := PrefC_at (HR_x_prefs.out W0 (Only.refl _ _)) hxz
   first
    | subst hez
    | (simp only [Option.some.injEq, Addr.mk.injEq, and_true] at hez; obtain ⟨rfl, rfl⟩ := hez)
   have Nz1 := Lib.hid N0z1
   have HEz := Lib.hid HE0z
   have HXz := Lib.hid hxz
   clear HE0z hxz N0z1
   have HRz1 : Hid (∀ W, Only (fun _ => False) W0 W → RowT 1 StrC B W (.slice az1 nz1 cz1) yz.names) := fun W ho => (HEz.out W ho).2.1
   have HCz : Hid (∀ W, Only (fun _ => False) W0 W → PrefC B W [.string yz.virtual, .slice az1 nz1 cz1, .int .i64 yz.line] yz) := fun W ho => (HEz.out W ho).2.2
   have hrz := (HEz.out W1 HO1.out).1
   have gz2 := hrz 2 _ rfl
   clear hrz
   obtain ⟨k0, k1⟩ := HBox.out W1 (HO1.out.same HPs.out)
   have hz := HRr.out W1 HPs.out
   rw [hW1, hW0] at gz2 k0 k1 hz
   go_enter Tryz.func51, Tryz.ntmps51
   go_wp2_with (refine wpList_store_row rfl 122 (.tmp 2) (.tmp 27) rfl (w.heap.size + 1) #[.int .u8 1, .int .i64 yz.line] rfl rfl 122 #[.int .u8 0, .int .i64 0] hz (by kernel_rfl) rfl (by kernel_rfl) ?_)
   refine ret_prob (p := 2) rfl rfl rfl rfl (setRow_heap _ _ _ _ _ _ hz) ?_
   rw [← hW0, ← hW1]
   exact ProbEnd.mk _ _ rfl (fun h => absurd h (by decide)) ((HOB.out.same (HO1.out.same HPs.out)).trans (only_setRow _ _ _) (fun k hk => .inr (by omega)))
  ·go_enter Tryz.func51, Tryz.ntmps51
   go_wp2_with fail
   rw [← hW0, ← hW1]
   clear hW0 hW1
   have HOC := HPs
   go_loopw [31] (fun vi wri => Hid (Only (fun _ => False) W1 wri) ∧ ∃ i : Nat, vi = .int .i64 i ∧ i ≤ n_x_packs ∧ Hid (∀ d ∈ x.packs.take i, PackOk d)) (fun v _ => n_x_packs - (RowKit.intOf v).toNat)
   case atStart => exact ⟨HOC, 0, rfl, Nat.zero_le _, show Hid _ from fun v hv => by simp at hv⟩
   case round =>
    obtain ⟨wri, rfl⟩ : ∃ W, W = wr := ⟨_, rfl⟩
    clear HOC
    obtain ⟨HPi, i, rfl, hi, HZ⟩ := hrel
    obtain ⟨k0, k1⟩ := HBox.out wri (HO1.out.same HPi.out)
    by_cases ci : i < n_x_packs
    ·have ewi : IntKind.i64.wrap ((i : Int) + 1) = (i : Int) + 1 := by rw [IntKind.wrap_i64]; omega
     have HAl := Lib.hid (Alone_any (HK_x.out wri (HO1.out.same HPi.out)) (by rw [N_x_packs.out]; exact hlen) (by rw [N_x_packs.out]; exact ci))
     go_wp2_with fail
     refine HAl.out.mono ?_
     rintro e w2 ⟨c, rfl, hcr, hcf, O2⟩
     have HP2 := Lib.hid (HPi.out.same O2)
     clear O2 HAl k0 k1
     obtain ⟨k0, k1⟩ := HBox.out w2 (HO1.out.same HP2.out)
     by_cases c0 : c = 0
     ·subst c0
      have hok := hcf rfl
      have HZ2 : Hid (∀ p ∈ x.packs.take (i + 1), PackOk p) := fun v hv => by
       have hpi : x.packs[i]? = some (x.pack i) := by
        unfold RecD.pack
        rw [List.getD_eq_getElem?_getD, List.getElem?_eq_getElem (by rw [N_x_packs.out]; exact ci)]; rfl
       rcases mem_take_snoc hpi hv with h | rfl
       ·exact HZ.out v h
       ·exact hok
      clear hcf hok
      go_wp2_with fail
      go_roundw
      case rel => exact ⟨HP2, i + 1, by first | rfl | go_num, by omega, HZ2⟩
      case measure => simp [RowKit.intOf] <;> omega
     ·have c1 : ((c : Int) == 0) = false := by rw [beq_eq_false_iff_ne]; exact c0
      clear hcf
      obtain ⟨yy, hxy⟩ : ∃ y, x.packs[i]? = some y := ⟨_, List.getElem?_eq_getElem (by rw [N_x_packs.out]; omega)⟩
      obtain ⟨bky, offy, ay1, ny1, cy1, ay2, ny2, cy2, ay3, ny3, cy3, ay4, ny4, cy4, ay5, ny5, cy5, ay6, ny6, cy6, hey, N0y1, N0y2, N0y3, N0y4, N0y5, N0y6, oky1, iny1, HE0y⟩ := PackC_at (HR_x_packs.out W0 (Only.refl _ _)) hxy
      first
       | subst hey
       | (simp only [Option.some.injEq, Addr.mk.injEq, and_true] at hey; obtain ⟨rfl, rfl⟩ := hey)
      have Ny1 := Lib.hid N0y1
      have Ny2 := Lib.hid N0y2
      have Ny3 := Lib.hid N0y3
      have Ny4 := Lib.hid N0y4
      have Ny5 := Lib.hid N0y5
      have Ny6 := Lib.hid N0y6
      have HEy := Lib.hid HE0y
      have HXy := Lib.hid hxy
      clear HE0y hxy N0y1 N0y2 N0y3 N0y4 N0y5 N0y6
      have HRy1 : Hid (∀ W, Only (fun _ => False) W0 W → RowT 2 RelC B W (.slice ay1 ny1 cy1) yy.rels) := fun W ho => (HEy.out W ho).2.1
      have HRy2 : Hid (∀ W, Only (fun _ => False) W0 W → RowT 2 VarC B W (.slice ay2 ny2 cy2) yy.vars) := fun W ho => (HEy.out W ho).2.2.1
      have HRy3 : Hid (∀ W, Only (fun _ => False) W0 W → RowT 1 StrC B W (.slice ay3 ny3 cy3) yy.provides) := fun W ho => (HEy.out W ho).2.2.2.1
      have HRy4 : Hid (∀ W, Only (fun _ => False) W0 W → RowT 7 DepC B W (.slice ay4 ny4 cy4) yy.deps) := fun W ho => (HEy.out W ho).2.2.2.2.1
      have HRy5 : Hid (∀ W, Only (fun _ => False) W0 W → RowT 7 ConC B W (.slice ay5 ny5 cy5) yy.cons) := fun W ho => (HEy.out W ho).2.2.2.2.2.1
      have HRy6 : Hid (∀ W, Only (fun _ => False) W0 W → RowT 1 StrC B W (.slice ay6 ny6 cy6) yy.files) := fun W ho => (HEy.out W ho).2.2.2.2.2.2.1
      have HCy : Hid (∀ W, Only (fun _ => False) W0 W → PackC B W [.string yy.name, .int .i64 yy.line, .slice ay1 ny1 cy1, .slice ay2 ny2 cy2, .slice ay3 ny3 cy3, .slice ay4 ny4 cy4, .slice ay5 ny5 cy5, .slice ay6 ny6 cy6] yy) := fun W ho => (HEy.out W ho).2.2.2.2.2.2.2
      have hry := (HEy.out w2 (HO1.out.same HP2.out)).1
      have gy1 := hry 1 _ rfl
      clear hry
      go_wp2_with (refine wpList_store_row rfl 122 (.tmp 2) (.tmp 46) rfl (w.heap.size + 1) #[.int .u8 c, .int .i64 yy.line] rfl rfl 122 #[.int .u8 0, .int .i64 0] (HRr.out w2 HP2.out) (by kernel_rfl) rfl (by kernel_rfl) ?_)
      refine ret_prob (p := 2) rfl rfl rfl rfl (setRow_heap _ _ _ _ _ _ (HRr.out w2 HP2.out)) ?_
      exact ProbEnd.mk _ _ rfl (fun h => absurd h c0) ((HOB.out.same (HO1.out.same HP2.out)).trans (only_setRow _ _ _) (fun k hk => .inr (by omega)))
    ·obtain rfl : n_x_packs = i := by omega
     have HZa : Hid (∀ d ∈ x.packs, PackOk d) := fun d hd => HZ.out d (by
      rw [List.take_of_length_le (Nat.le_of_eq N_x_packs.out)]
      exact hd)
     have HOC := HPi
     go_wp2_with fail
     clear k0 k1
     go_loopw [51] (fun vj wrj => Hid (Only (fun _ => False) W1 wrj) ∧ ∃ j : Nat, vj = .int .i64 j ∧ j ≤ n_x_packs) (fun v _ => n_x_packs - (RowKit.intOf v).toNat)
     case atStart => exact ⟨HOC, 0, rfl, Nat.zero_le _⟩
     case round =>
      obtain ⟨wrj, rfl⟩ : ∃ W, W = wr := ⟨_, rfl⟩
      clear HOC
      obtain ⟨HPj, j, rfl, hj⟩ := hrel
      obtain ⟨k0, k1⟩ := HBox.out wrj (HO1.out.same HPj.out)
      by_cases cj : j < n_x_packs
      ·have ewi : IntKind.i64.wrap ((j : Int) + 1) = (j : Int) + 1 := by rw [IntKind.wrap_i64]; omega
       obtain ⟨yv, hxv⟩ : ∃ y, x.packs[j]? = some y := ⟨_, List.getElem?_eq_getElem (by rw [N_x_packs.out]; omega)⟩
       obtain ⟨bkv, offv, av1, nv1, cv1, av2, nv2, cv2, av3, nv3, cv3, av4, nv4, cv4, av5, nv5, cv5, av6, nv6, cv6, hev, N0v1, N0v2, N0v3, N0v4, N0v5, N0v6, okv1, inv1, HE0v⟩ := PackC_at (HR_x_packs.out W0 (Only.refl _ _)) hxv
       first
        | subst hev
        | (simp only [Option.some.injEq, Addr.mk.injEq, and_true] at hev; obtain ⟨rfl, rfl⟩ := hev)
       have Nv1 := Lib.hid N0v1
       have Nv2 := Lib.hid N0v2
       have Nv3 := Lib.hid N0v3
       have Nv4 := Lib.hid N0v4
       have Nv5 := Lib.hid N0v5
       have Nv6 := Lib.hid N0v6
       have HEv := Lib.hid HE0v
       have HXv := Lib.hid hxv
       clear HE0v hxv N0v1 N0v2 N0v3 N0v4 N0v5 N0v6
       have HRv1 : Hid (∀ W, Only (fun _ => False) W0 W → RowT 2 RelC B W (.slice av1 nv1 cv1) yv.rels) := fun W ho => (HEv.out W ho).2.1
       have HRv2 : Hid (∀ W, Only (fun _ => False) W0 W → RowT 2 VarC B W (.slice av2 nv2 cv2) yv.vars) := fun W ho => (HEv.out W ho).2.2.1
       have HRv3 : Hid (∀ W, Only (fun _ => False) W0 W → RowT 1 StrC B W (.slice av3 nv3 cv3) yv.provides) := fun W ho => (HEv.out W ho).2.2.2.1
       have HRv4 : Hid (∀ W, Only (fun _ => False) W0 W → RowT 7 DepC B W (.slice av4 nv4 cv4) yv.deps) := fun W ho => (HEv.out W ho).2.2.2.2.1
       have HRv5 : Hid (∀ W, Only (fun _ => False) W0 W → RowT 7 ConC B W (.slice av5 nv5 cv5) yv.cons) := fun W ho => (HEv.out W ho).2.2.2.2.2.1
       have HRv6 : Hid (∀ W, Only (fun _ => False) W0 W → RowT 1 StrC B W (.slice av6 nv6 cv6) yv.files) := fun W ho => (HEv.out W ho).2.2.2.2.2.2.1
       have HCv : Hid (∀ W, Only (fun _ => False) W0 W → PackC B W [.string yv.name, .int .i64 yv.line, .slice av1 nv1 cv1, .slice av2 nv2 cv2, .slice av3 nv3 cv3, .slice av4 nv4 cv4, .slice av5 nv5 cv5, .slice av6 nv6 cv6] yv) := fun W ho => (HEv.out W ho).2.2.2.2.2.2.2
       obtain ⟨c, l, hcl⟩ : ∃ c l : Int, rulesD x yv = (c, l) := ⟨_, _, rfl⟩
       have HRl : Hid (∀ W, Only (fun _ => False) W1 W → Calls Tryz.prog 74 #[.agg #[.slice (some ⟨bkv, offv, none⟩) n_x_packs c_x_packs, .slice a_x_prefs n_x_prefs c_x_prefs], .agg #[.string yv.name, .int .i64 yv.line, .slice av1 nv1 cv1, .slice av2 nv2 cv2, .slice av3 nv3 cv3, .slice av4 nv4 cv4, .slice av5 nv5 cv5, .slice av6 nv6 cv6]] W fun e w' => e = .returned (.agg #[.int .u8 c, .int .i64 l]) ∧ Only (fun _ => False) W w') := fun W hW => by
        have := Rules9_any (HK_x.out W (HO1.out.same hW)) (HCv.out W (HO1.out.same hW)) (by rw [N_x_packs.out]; exact hlen)
        rw [hcl] at this
        exact this
       clear hcl
       go_wp2_with fail
       clear k0 k1
       refine wp_region_G (n := 9) (E := fun k => k = 8) (S := fun W => Only (fun _ => False) W1 W) (by kernel_rfl) rfl (by exact HPj.out.drew) (fun hHeld => ?_)
       refine tqK (i := 0) (v := ?_) rfl ?_ ?_
       rotate_left
       ·(intro w hSw; obtain ⟨k0, k1⟩ := HBox.out w (HO1.out.same hSw); have hrv := (HEv.out w (HO1.out.same hSw)).1; have gv0 := hrv 0 _ rfl; have gv1 := hrv 1 _ rfl; have gv2 := hrv 2 _ rfl; have gv3 := hrv 3 _ rfl; have gv4 := hrv 4 _ rfl; have gv5 := hrv 5 _ rfl; have gv6 := hrv 6 _ rfl; have gv7 := hrv 7 _ rfl; rw [Nat.add_zero] at gv0; go_simp <;> (try with_reducible rfl))
       try simp only [Act.put, zq1, zq3, zq4, zq5, zq6]
       refine tqW (i := 1) (v := ?_) rfl (.inr (by assumption)) ?_ ?_
       rotate_left
       ·(intro w; go_simp <;> (try with_reducible rfl))
       try simp only [Act.put, zq1, zq2, zq3, zq4, zq5, zq6]
       refine tqK (i := 2) (v := ?_) rfl ?_ ?_
       rotate_left
       ·(intro w hSw; obtain ⟨k0, k1⟩ := HBox.out w (HO1.out.same hSw); have hrv := (HEv.out w (HO1.out.same hSw)).1; have gv0 := hrv 0 _ rfl; have gv1 := hrv 1 _ rfl; have gv2 := hrv 2 _ rfl; have gv3 := hrv 3 _ rfl; have gv4 := hrv 4 _ rfl; have gv5 := hrv 5 _ rfl; have gv6 := hrv 6 _ rfl; have gv7 := hrv 7 _ rfl; rw [Nat.add_zero] at gv0; go_simp <;> (try with_reducible rfl))
       try simp only [Act.put, zq1, zq2, zq3, zq4, zq5, zq6]
       refine tqW (i := 3) (v := ?_) rfl (.inr (by assumption)) ?_ ?_
       rotate_left
       ·(intro w; go_simp <;> (try with_reducible rfl))
       try simp only [Act.put, zq1, zq2, zq3, zq4, zq5, zq6]
       refine tqW (i := 4) (v := ?_) rfl (.inr (by assumption)) ?_ ?_
       rotate_left
       ·(intro w; go_simp <;> (try with_reducible rfl))
       try simp only [Act.put, zq1, zq2, zq3, zq4, zq5, zq6]
       refine tqK (i := 5) (v := ?_) rfl ?_ ?_
       rotate_left
       ·(intro w hSw; obtain ⟨k0, k1⟩ := HBox.out w (HO1.out.same hSw); have hrv := (HEv.out w (HO1.out.same hSw)).1; have gv0 := hrv 0 _ rfl; have gv1 := hrv 1 _ rfl; have gv2 := hrv 2 _ rfl; have gv3 := hrv 3 _ rfl; have gv4 := hrv 4 _ rfl; have gv5 := hrv 5 _ rfl; have gv6 := hrv 6 _ rfl; have gv7 := hrv 7 _ rfl; rw [Nat.add_zero] at gv0; go_simp <;> (try with_reducible rfl))
       try simp only [Act.put, zq1, zq2, zq3, zq4, zq5, zq6]
       refine wpAnyG_ready (rs := [6, 7]) (by kernel_rfl) (by simp) ?_
       refine AllReadyG.cons (i := 6) rfl (fun K hK => ?_) ?_
       ·(go_simp; refine (HRl.out _ hHeld).mono ?_; rintro e w5 ⟨rfl, o5⟩; try go_wp2_with fail)
        refine hK.out _ _ ?_ (fun hHeld => ?_)
        ·(try dsimp only) <;> (exact Only.same hHeld o5)
        clear hK K
        try simp only [Act.put, zq1, zq2, zq3, zq4, zq5, zq6]
        refine wpAnyG_ready (rs := [7]) (by kernel_rfl) (by simp) ?_
        refine AllReadyG.cons (i := 7) rfl (fun K hK => ?_) ?_
        ·go_simp
         refine hK.out _ _ ?_ (fun hHeld => ?_)
         ·(try dsimp only) <;> (exact hHeld.alloc _)
         clear hK K
         try simp only [Act.put, zq1, zq2, zq3, zq4, zq5, zq6]
         refine wpAnyG_ready (rs := [8]) (by kernel_rfl) (by simp) ?_
         refine AllReadyG.late (i := 8) rfl (by kernel_rfl) (fun K hK => ?_) ?_
         ·(rw [if_pos (by kernel_rfl)]; refine wp_store_rowX 122 (.tmp 6) (.tmp 60) rfl _ #[.int .u8 c, .int .i64 l] rfl rfl 122 #[.int .u8 0, .int .i64 0] (by first | exact heap_alloc_new _ _ | (have hb := heap_alloc_new wrj.drew (.cells #[.int .u8 0, .int .i64 0] 122); exact only_block hb o5 (fun f => f))) (by kernel_rfl) rfl (by kernel_rfl) ?_; intro W3 hg3 ho3)
          refine hK.out _ _ ?_
          clear hK K
          try simp only [Act.put, zq1, zq2, zq3]
          refine wpAnyG_done (by kernel_rfl) ?_ _
          generalize hgg : w5.heap.size = g at *
          have HP3 : Hid (Only (fun _ => False) W1 W3) := hHeld.trans ho3 (fun k hk => .inr (by have := ((‹Only (fun _ => False) W1 w5› : Only (fun _ => False) W1 w5)).size; (try simp at hgg); omega))
          have HBr : Hid (∀ V, Only (fun _ => False) W3 V → V.cell? ⟨g, 0, none⟩ = some (.int .u8 c) ∧ V.cell? ⟨g, 1, none⟩ = some (.int .i64 l)) := fun V ho => by
           have b1 := only_block hg3 ho (fun f => f)
           exact ⟨by rw [cell_block b1]; rfl, by rw [cell_block b1]; rfl⟩
          clear ho3 hg3 hHeld
          obtain ⟨r0, r1⟩ := HBr.out W3 (Only.refl _ _)
          obtain ⟨k0, k1⟩ := HBox.out W3 (HO1.out.same HP3.out)
          by_cases c0 : c = 0
          ·subst c0
           go_wp2_with fail
           go_roundw
           case rel => exact ⟨HP3, j + 1, by first | rfl | go_num, by omega⟩
           case measure => simp [RowKit.intOf] <;> omega
          ·have c1 : ((c : Int) == 0) = false := by rw [beq_eq_false_iff_ne]; exact c0
           go_wp2_with (refine wpList_store_row rfl 122 (.tmp 2) (.tmp 64) rfl (w.heap.size + 1) #[.int .u8 c, .int .i64 l] rfl rfl 122 #[.int .u8 0, .int .i64 0] (HRr.out W3 HP3.out) (by kernel_rfl) rfl (by kernel_rfl) ?_)
           refine ret_prob (p := 2) rfl rfl rfl rfl (setRow_heap _ _ _ _ _ _ (HRr.out W3 HP3.out)) ?_
           exact ProbEnd.mk _ _ rfl (fun h => absurd h c0) ((HOB.out.same (HO1.out.same HP3.out)).trans (only_setRow _ _ _) (fun k hk => .inr (by omega)))
         exact AllReadyG.nil
        exact AllReadyG.nil
       refine AllReadyG.cons (i := 7) rfl (fun K hK => ?_) ?_
       ·go_simp
        refine hK.out _ _ ?_ (fun hHeld => ?_)
        ·(try dsimp only) <;> (exact hHeld.alloc _)
        clear hK K
        try simp only [Act.put, zq1, zq2, zq3, zq4, zq5, zq6]
        refine wpAnyG_ready (rs := [6]) (by kernel_rfl) (by simp) ?_
        refine AllReadyG.cons (i := 6) rfl (fun K hK => ?_) ?_
        ·(go_simp; refine (HRl.out _ hHeld).mono ?_; rintro e w5 ⟨rfl, o5⟩; try go_wp2_with fail)
         refine hK.out _ _ ?_ (fun hHeld => ?_)
         ·(try dsimp only) <;> (exact Only.same hHeld o5)
         clear hK K
         try simp only [Act.put, zq1, zq2, zq3, zq4, zq5, zq6]
         refine wpAnyG_ready (rs := [8]) (by kernel_rfl) (by simp) ?_
         refine AllReadyG.late (i := 8) rfl (by kernel_rfl) (fun K hK => ?_) ?_
         ·(rw [if_pos (by kernel_rfl)]; refine wp_store_rowX 122 (.tmp 6) (.tmp 60) rfl _ #[.int .u8 c, .int .i64 l] rfl rfl 122 #[.int .u8 0, .int .i64 0] (by first | exact heap_alloc_new _ _ | (have hb := heap_alloc_new wrj.drew (.cells #[.int .u8 0, .int .i64 0] 122); exact only_block hb o5 (fun f => f))) (by kernel_rfl) rfl (by kernel_rfl) ?_; intro W3 hg3 ho3)
          refine hK.out _ _ ?_
          clear hK K
          try simp only [Act.put, zq1, zq2, zq3]
          refine wpAnyG_done (by kernel_rfl) ?_ _
          generalize hgg : wrj.heap.size = g at *
          have HP3 : Hid (Only (fun _ => False) W1 W3) := hHeld.trans ho3 (fun k hk => .inr (by have := (HPj.out).size; (try simp at hgg); omega))
          have HBr : Hid (∀ V, Only (fun _ => False) W3 V → V.cell? ⟨g, 0, none⟩ = some (.int .u8 c) ∧ V.cell? ⟨g, 1, none⟩ = some (.int .i64 l)) := fun V ho => by
           have b1 := only_block hg3 ho (fun f => f)
           exact ⟨by rw [cell_block b1]; rfl, by rw [cell_block b1]; rfl⟩
          clear ho3 hg3 hHeld
          obtain ⟨r0, r1⟩ := HBr.out W3 (Only.refl _ _)
          obtain ⟨k0, k1⟩ := HBox.out W3 (HO1.out.same HP3.out)
          by_cases c0 : c = 0
          ·subst c0
           go_wp2_with fail
           go_roundw
           case rel => exact ⟨HP3, j + 1, by first | rfl | go_num, by omega⟩
           case measure => simp [RowKit.intOf] <;> omega
          ·have c1 : ((c : Int) == 0) = false := by rw [beq_eq_false_iff_ne]; exact c0
           go_wp2_with (refine wpList_store_row rfl 122 (.tmp 2) (.tmp 64) rfl (w.heap.size + 1) #[.int .u8 c, .int .i64 l] rfl rfl 122 #[.int .u8 0, .int .i64 0] (HRr.out W3 HP3.out) (by kernel_rfl) rfl (by kernel_rfl) ?_)
           refine ret_prob (p := 2) rfl rfl rfl rfl (setRow_heap _ _ _ _ _ _ (HRr.out W3 HP3.out)) ?_
           exact ProbEnd.mk _ _ rfl (fun h => absurd h c0) ((HOB.out.same (HO1.out.same HP3.out)).trans (only_setRow _ _ _) (fun k hk => .inr (by omega)))
         exact AllReadyG.nil
        exact AllReadyG.nil
       exact AllReadyG.nil
      ·obtain rfl : n_x_packs = j := by omega
       have HOC := HPj
       go_wp2_with fail
       clear k0 k1
       go_loopw [69] (fun vm wrm => Hid (Only (fun _ => False) W1 wrm) ∧ ∃ m : Nat, vm = .int .i64 m ∧ m ≤ n_x_prefs) (fun v _ => n_x_prefs - (RowKit.intOf v).toNat)
       case atStart => exact ⟨HOC, 0, rfl, Nat.zero_le _⟩
       case round =>
        obtain ⟨wrm, rfl⟩ : ∃ W, W = wr := ⟨_, rfl⟩
        clear HOC
        obtain ⟨HPm, m, rfl, hm⟩ := hrel
        obtain ⟨k0, k1⟩ := HBox.out wrm (HO1.out.same HPm.out)
        by_cases cm : m < n_x_prefs
        ·have ewi : IntKind.i64.wrap ((m : Int) + 1) = (m : Int) + 1 := by rw [IntKind.wrap_i64]; omega
         have HPf := Lib.hid (Prefer9_any (HK_x.out wrm (HO1.out.same HPm.out)) (by rw [N_x_packs.out]; exact hlen) (by rw [N_x_prefs.out]; exact cm))
         go_wp2_with fail
         refine HPf.out.mono ?_
         rintro e w2 ⟨bb, rfl, O2⟩
         have HP2 := Lib.hid (HPm.out.same O2)
         clear O2 HPf k0 k1
         obtain ⟨k0, k1⟩ := HBox.out w2 (HO1.out.same HP2.out)
         cases bb with
         | true =>
          go_wp2_with fail
          go_roundw
          case rel => exact ⟨HP2, m + 1, by first | rfl | go_num, by omega⟩
          case measure => simp [RowKit.intOf] <;> omega
         | false =>
          obtain ⟨yf, hxf⟩ : ∃ y, x.prefs[m]? = some y := ⟨_, List.getElem?_eq_getElem (by rw [N_x_prefs.out]; omega)⟩
          obtain ⟨bkf, offf, af1, nf1, cf1, hef, N0f1, okf1, inf1, HE0f⟩ := PrefC_at (HR_x_prefs.out W0 (Only.refl _ _)) hxf
          first
           | subst hef
           | (simp only [Option.some.injEq, Addr.mk.injEq, and_true] at hef; obtain ⟨rfl, rfl⟩ := hef)
          have Nf1 := Lib.hid N0f1
          have HEf := Lib.hid HE0f
          have HXf := Lib.hid hxf
          clear HE0f hxf N0f1
          have HRf1 : Hid (∀ W, Only (fun _ => False) W0 W → RowT 1 StrC B W (.slice af1 nf1 cf1) yf.names) := fun W ho => (HEf.out W ho).2.1
          have HCf : Hid (∀ W, Only (fun _ => False) W0 W → PrefC B W [.string yf.virtual, .slice af1 nf1 cf1, .int .i64 yf.line] yf) := fun W ho => (HEf.out W ho).2.2
          have hrf := (HEf.out w2 (HO1.out.same HP2.out)).1
          have gf2 := hrf 2 _ rfl
          clear hrf
          go_wp2_with (refine wpList_store_row rfl 122 (.tmp 2) (.tmp 82) rfl (w.heap.size + 1) #[.int .u8 10, .int .i64 yf.line] rfl rfl 122 #[.int .u8 0, .int .i64 0] (HRr.out w2 HP2.out) (by kernel_rfl) rfl (by kernel_rfl) ?_)
          refine ret_prob (p := 2) rfl rfl rfl rfl (setRow_heap _ _ _ _ _ _ (HRr.out w2 HP2.out)) ?_
          exact ProbEnd.mk _ _ rfl (fun h => absurd h (by decide)) ((HOB.out.same (HO1.out.same HP2.out)).trans (only_setRow _ _ _) (fun k hk => .inr (by omega)))
        ·obtain rfl : n_x_prefs = m := by omega
         go_wp2_with (refine wpList_store_row rfl 122 (.tmp 2) (.tmp 84) rfl (w.heap.size + 1) #[.int .u8 0, .int .i64 0] rfl rfl 122 #[.int .u8 0, .int .i64 0] (HRr.out wrm HPm.out) (by kernel_rfl) rfl (by kernel_rfl) ?_)
         refine ret_prob (p := 2) rfl rfl rfl rfl (setRow_heap _ _ _ _ _ _ (HRr.out wrm HPm.out)) ?_
         exact ProbEnd.mk _ _ rfl (fun _ => HZa.out) ((HOB.out.same (HO1.out.same HPm.out)).trans (only_setRow _ _ _) (fun k hk => .inr (by omega)))
end
end Go.Proofs.YtbapkcnfacklaaaGreat

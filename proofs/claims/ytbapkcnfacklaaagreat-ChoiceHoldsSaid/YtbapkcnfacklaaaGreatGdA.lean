/- Gd2 Gd3 Gd4 Gd5 Gd6, in one text. -/
import Derived.Test.YtbapkcnfacklaaaGreatGd1
import Derived.Test.YtbapkcnfacklaaaGreatVrA
import Derived.Test.YtbapkcnfacklaaaGreatRfD
import Derived.Test.YtbapkcnfacklaaaGreatCh14
import Derived.Deep.QuietTactic
import Derived.BigQuiet
import Derived.Test.YtbapkcnfacklaaaGreatRfE
import Derived.Test.YtbapkcnfacklaaaGreatRfB
set_option linter.unusedVariables false
namespace Go.Proofs.YtbapkcnfacklaaaGreat
open Go.RowKit
section
variable {w w' : World} {B : Nat}
set_option maxRecDepth 100000 in
theorem pick_any {v : Value} {l : List Nat} (h : RowT 1 U8C B w v l) (a n : Nat) (ha : a ≤ 100000000) (hn : n ≤ 100000000) :
  Calls Tryz.prog 44 #[v, .int .i64 (a : Int), .int .i64 (n : Int)] w fun e w' => e = .returned (.int .i64 (pickN l a n : Int)) ∧ Only (fun _ => False) w w' := by
 obtain ⟨r, hr⟩ : ∃ r, pickN l a n = r := ⟨_, rfl⟩
 obtain ⟨ao, cap, rfl, g1, g2⟩ := h.shape
 obtain ⟨m, hm⟩ : ∃ m, l.length = m := ⟨_, rfl⟩
 rw [hr]
 unfold pickN at hr
 by_cases c1 : a < m
 ·obtain ⟨y, hy⟩ : ∃ y, l[a]? = some y := ⟨_, List.getElem?_eq_getElem (by rw [hm]; exact c1)⟩
  obtain ⟨b, off, e1, h256, hE⟩ := U8C_at h hy
  subst e1
  have g0 := hE w (Only.refl _ _)
  rw [hm] at hr g1 ⊢
  rw [List.getD_eq_getElem?_getD, hy] at hr
  by_cases c2 : 0 < n
  ·rw [if_pos ⟨c1, c2⟩] at hr
   have hr' : y % n = r := hr
   have ht : Int.tmod (y : Int) (n : Int) = (r : Int) := by rw [← hr', ← Int.ofNat_tmod]
   have hn0 : ((n : Int) == 0) = false := by rw [beq_eq_false_iff_ne]; omega
   have hrb : r < n := by rw [← hr']; exact Nat.mod_lt _ c2
   clear h hm hE hy hr hr'
   go_enter Tryz.func44, Tryz.ntmps44
   go_wp2_with fail
   go_ret
   exact ⟨rfl, Only.refl _ _⟩
  ·rw [if_neg (fun h => c2 h.2)] at hr
   subst hr
   clear h hm hE hy g0
   go_enter Tryz.func44, Tryz.ntmps44
   go_wp2_with fail
   go_ret
   exact ⟨rfl, Only.refl _ _⟩
 ·rw [hm] at hr g1 ⊢
  rw [if_neg (fun h => c1 h.1)] at hr
  subst hr
  clear h hm
  go_enter Tryz.func44, Tryz.ntmps44
  go_wp2_with fail
  go_ret
  exact ⟨rfl, Only.refl _ _⟩
set_option maxRecDepth 100000 in
set_option maxHeartbeats 4000000 in
theorem There_any {csg : List Value} {g : GD} (hg : GC B w csg g) (p : Int) (hp : InI64 p) :
  Calls Tryz.prog 64 #[.agg csg.toArray, .int .i64 p] w fun e w' => e = .returned (.bool (thereB g.c p)) ∧ Only (fun _ => False) w w' := by
 have HH_g := Lib.hid hg
 obtain ⟨u1, u2, u3, u4, u5, rfl, r1, r2, r3, r4, r5⟩ := hg
 obtain ⟨a_g_packs, c_g_packs, rfl, g_g_packs, h_g_packs⟩ := r1.shape
 obtain ⟨n_g_packs, e1⟩ : ∃ n, g.x.packs.length = n := ⟨_, rfl⟩
 have N_g_packs := Lib.hid e1
 obtain ⟨a_g_prefs, c_g_prefs, rfl, g_g_prefs, h_g_prefs⟩ := r2.shape
 obtain ⟨n_g_prefs, e2⟩ : ∃ n, g.x.prefs.length = n := ⟨_, rfl⟩
 have N_g_prefs := Lib.hid e2
 obtain ⟨a_g_roots, c_g_roots, rfl, g_g_roots, h_g_roots⟩ := r3.shape
 obtain ⟨n_g_roots, e3⟩ : ∃ n, g.q.roots.length = n := ⟨_, rfl⟩
 have N_g_roots := Lib.hid e3
 obtain ⟨a_g_c, c_g_c, rfl, g_g_c, h_g_c⟩ := r4.shape
 obtain ⟨n_g_c, e4⟩ : ∃ n, g.c.length = n := ⟨_, rfl⟩
 have N_g_c := Lib.hid e4
 obtain ⟨a_g_off, c_g_off, rfl, g_g_off, h_g_off⟩ := r5.shape
 obtain ⟨n_g_off, e5⟩ : ∃ n, g.off.length = n := ⟨_, rfl⟩
 have N_g_off := Lib.hid e5
 rw [e1, e2, e3, e4, e5] at HH_g
 rw [e1] at r1 g_g_packs
 have RR_g_packs := Lib.hid r1
 rw [e2] at r2 g_g_prefs
 have RR_g_prefs := Lib.hid r2
 rw [e3] at r3 g_g_roots
 have RR_g_roots := Lib.hid r3
 rw [e4] at r4 g_g_c
 have RR_g_c := Lib.hid r4
 rw [e5] at r5 g_g_off
 have RR_g_off := Lib.hid r5
 rw [e1, e2, e3, e4, e5]
 clear e1 e2 e3 e4 e5 r1 r2 r3 r4 r5
 obtain ⟨W0, hW0⟩ : ∃ W0, W0 = (w.alloc (.cells #[.slice a_g_packs n_g_packs c_g_packs, .slice a_g_prefs n_g_prefs c_g_prefs, .slice a_g_roots n_g_roots c_g_roots, .slice a_g_c n_g_c c_g_c, .slice a_g_off n_g_off c_g_off] 62)) := ⟨_, rfl⟩
 have HOB : Hid (Only (fun _ => False) w W0) := by rw [hW0]; exact (Only.refl _ _).alloc _
 have HSz : Hid (W0.heap.size = w.heap.size + 1) := by rw [hW0]; simp [Hid]
 have HBox : Hid (∀ W, Only (fun _ => False) W0 W → W.cell? ⟨w.heap.size, 0, none⟩ = some (.slice a_g_packs n_g_packs c_g_packs) ∧ W.cell? ⟨w.heap.size, 1, none⟩ = some (.slice a_g_prefs n_g_prefs c_g_prefs) ∧ W.cell? ⟨w.heap.size, 2, none⟩ = some (.slice a_g_roots n_g_roots c_g_roots) ∧ W.cell? ⟨w.heap.size, 3, none⟩ = some (.slice a_g_c n_g_c c_g_c) ∧ W.cell? ⟨w.heap.size, 4, none⟩ = some (.slice a_g_off n_g_off c_g_off)) := fun W ho => by
  have b0 : W0.heap[w.heap.size]? = some (.cells #[.slice a_g_packs n_g_packs c_g_packs, .slice a_g_prefs n_g_prefs c_g_prefs, .slice a_g_roots n_g_roots c_g_roots, .slice a_g_c n_g_c c_g_c, .slice a_g_off n_g_off c_g_off] 62) := by rw [hW0]; exact alloc_at rfl
  have d0 := only_block b0 ho (fun f => f)
  exact ⟨by rw [cell_block d0]; rfl, by rw [cell_block d0]; rfl, by rw [cell_block d0]; rfl, by rw [cell_block d0]; rfl, by rw [cell_block d0]; rfl⟩
 have HK_g : Hid (∀ W, Only (fun _ => False) W0 W → GC B W [.slice a_g_packs n_g_packs c_g_packs, .slice a_g_prefs n_g_prefs c_g_prefs, .slice a_g_roots n_g_roots c_g_roots, .slice a_g_c n_g_c c_g_c, .slice a_g_off n_g_off c_g_off] g) := fun W ho => GC.keep HH_g.out (Kp.of0 (HOB.out.same ho) : Kp B w W)
 have HR_g_packs : Hid (∀ W, Only (fun _ => False) W0 W → RowT 8 PackC B W (.slice a_g_packs n_g_packs c_g_packs) g.x.packs) := fun W ho => RR_g_packs.out.keep PackC.keep (Kp.of0 (HOB.out.same ho))
 clear RR_g_packs
 have HR_g_prefs : Hid (∀ W, Only (fun _ => False) W0 W → RowT 3 PrefC B W (.slice a_g_prefs n_g_prefs c_g_prefs) g.x.prefs) := fun W ho => RR_g_prefs.out.keep PrefC.keep (Kp.of0 (HOB.out.same ho))
 clear RR_g_prefs
 have HR_g_roots : Hid (∀ W, Only (fun _ => False) W0 W → RowT 4 RootC B W (.slice a_g_roots n_g_roots c_g_roots) g.q.roots) := fun W ho => RR_g_roots.out.keep RootC.keep (Kp.of0 (HOB.out.same ho))
 clear RR_g_roots
 have HR_g_c : Hid (∀ W, Only (fun _ => False) W0 W → RowT 2 CC B W (.slice a_g_c n_g_c c_g_c) g.c) := fun W ho => RR_g_c.out.keep CC.keep (Kp.of0 (HOB.out.same ho))
 clear RR_g_c
 have HR_g_off : Hid (∀ W, Only (fun _ => False) W0 W → RowT 1 BoolC B W (.slice a_g_off n_g_off c_g_off) g.off) := fun W ho => RR_g_off.out.keep BoolC.keep (Kp.of0 (HOB.out.same ho))
 clear RR_g_off
 clear HH_g
 obtain ⟨k0, k1, k2, k3, k4⟩ := HBox.out W0 (Only.refl _ _)
 obtain ⟨r, hr⟩ : ∃ r, thereB g.c p = r := ⟨_, rfl⟩
 rw [hr]
 unfold thereB at hr
 by_cases c1 : 0 ≤ p
 ·obtain ⟨pn, rfl⟩ : ∃ n : Nat, p = n := ⟨p.toNat, by omega⟩
  rw [N_g_c.out, decide_eq_true c1, Bool.true_and, Int.toNat_natCast] at hr
  by_cases c2 : pn < n_g_c
  ·rw [decide_eq_true (show (pn : Int) < (n_g_c : Int) by omega), Bool.true_and] at hr
   obtain ⟨yc, hxc⟩ : ∃ y, g.c[pn]? = some y := ⟨_, List.getElem?_eq_getElem (by rw [N_g_c.out]; omega)⟩
   obtain ⟨bkc, offc, ac1, nc1, cc1, hec, N0c1, inc1, HE0c⟩ := CC_at (HR_g_c.out W0 (Only.refl _ _)) hxc
   first
    | subst hec
    | (simp only [Option.some.injEq, Addr.mk.injEq, and_true] at hec; obtain ⟨rfl, rfl⟩ := hec)
   have Nc1 := Lib.hid N0c1
   have HEc := Lib.hid HE0c
   have HXc := Lib.hid hxc
   clear HE0c hxc N0c1
   have HRc1 : Hid (∀ W, Only (fun _ => False) W0 W → RowT 1 IntC B W (.slice ac1 nc1 cc1) yc.vals) := fun W ho => (HEc.out W ho).2.1
   have HCc : Hid (∀ W, Only (fun _ => False) W0 W → CC B W [.int .i64 yc.rel, .slice ac1 nc1 cc1] yc) := fun W ho => (HEc.out W ho).2.2
   have hd : g.c.getD pn default = yc := by rw [List.getD_eq_getElem?_getD, HXc.out]; rfl
   rw [hd] at hr
   have hrc := (HEc.out W0 (Only.refl _ _)).1
   have gc0 := hrc 0 _ rfl
   rw [Nat.add_zero] at gc0
   clear hrc
   by_cases c3 : 0 ≤ yc.rel
   ·rw [decide_eq_true c3] at hr
    subst hr
    rw [hW0] at k0 k1 k2 k3 k4 gc0
    go_enter Tryz.func64, Tryz.ntmps64
    go_wp2_with fail
    go_ret
    rw [← hW0]
    exact ⟨rfl, HOB.out⟩
   ·rw [decide_eq_false c3] at hr
    subst hr
    rw [hW0] at k0 k1 k2 k3 k4 gc0
    go_enter Tryz.func64, Tryz.ntmps64
    go_wp2_with fail
    go_ret
    rw [← hW0]
    exact ⟨rfl, HOB.out⟩
  ·rw [decide_eq_false (show ¬ (pn : Int) < (n_g_c : Int) by omega), Bool.false_and] at hr
   subst hr
   rw [hW0] at k0 k1 k2 k3 k4
   go_enter Tryz.func64, Tryz.ntmps64
   go_wp2_with fail
   go_ret
   rw [← hW0]
   exact ⟨rfl, HOB.out⟩
 ·rw [decide_eq_false c1, Bool.false_and, Bool.false_and] at hr
  subst hr
  go_enter Tryz.func64, Tryz.ntmps64
  go_wp2_with fail
  go_ret
  rw [← hW0]
  exact ⟨rfl, HOB.out⟩
def onB (off : List Bool) (i : Nat) : Bool := decide (off.length ≤ i) || !off.getD i false
set_option maxRecDepth 100000 in
set_option maxHeartbeats 4000000 in
theorem On_any {csg : List Value} {g : GD} (hg : GC B w csg g) (i : Nat) (hi : i ≤ 1000000000) :
  Calls Tryz.prog 63 #[.agg csg.toArray, .int .i64 (i : Int)] w fun e w' => e = .returned (.bool (onB g.off i)) ∧ Only (fun _ => False) w w' := by
 have HH_g := Lib.hid hg
 obtain ⟨u1, u2, u3, u4, u5, rfl, r1, r2, r3, r4, r5⟩ := hg
 obtain ⟨a_g_packs, c_g_packs, rfl, g_g_packs, h_g_packs⟩ := r1.shape
 obtain ⟨n_g_packs, e1⟩ : ∃ n, g.x.packs.length = n := ⟨_, rfl⟩
 have N_g_packs := Lib.hid e1
 obtain ⟨a_g_prefs, c_g_prefs, rfl, g_g_prefs, h_g_prefs⟩ := r2.shape
 obtain ⟨n_g_prefs, e2⟩ : ∃ n, g.x.prefs.length = n := ⟨_, rfl⟩
 have N_g_prefs := Lib.hid e2
 obtain ⟨a_g_roots, c_g_roots, rfl, g_g_roots, h_g_roots⟩ := r3.shape
 obtain ⟨n_g_roots, e3⟩ : ∃ n, g.q.roots.length = n := ⟨_, rfl⟩
 have N_g_roots := Lib.hid e3
 obtain ⟨a_g_c, c_g_c, rfl, g_g_c, h_g_c⟩ := r4.shape
 obtain ⟨n_g_c, e4⟩ : ∃ n, g.c.length = n := ⟨_, rfl⟩
 have N_g_c := Lib.hid e4
 obtain ⟨a_g_off, c_g_off, rfl, g_g_off, h_g_off⟩ := r5.shape
 obtain ⟨n_g_off, e5⟩ : ∃ n, g.off.length = n := ⟨_, rfl⟩
 have N_g_off := Lib.hid e5
 rw [e1, e2, e3, e4, e5] at HH_g
 rw [e1] at r1 g_g_packs
 have RR_g_packs := Lib.hid r1
 rw [e2] at r2 g_g_prefs
 have RR_g_prefs := Lib.hid r2
 rw [e3] at r3 g_g_roots
 have RR_g_roots := Lib.hid r3
 rw [e4] at r4 g_g_c
 have RR_g_c := Lib.hid r4
 rw [e5] at r5 g_g_off
 have RR_g_off := Lib.hid r5
 rw [e1, e2, e3, e4, e5]
 clear e1 e2 e3 e4 e5 r1 r2 r3 r4 r5
 obtain ⟨W0, hW0⟩ : ∃ W0, W0 = (w.alloc (.cells #[.slice a_g_packs n_g_packs c_g_packs, .slice a_g_prefs n_g_prefs c_g_prefs, .slice a_g_roots n_g_roots c_g_roots, .slice a_g_c n_g_c c_g_c, .slice a_g_off n_g_off c_g_off] 62)) := ⟨_, rfl⟩
 have HOB : Hid (Only (fun _ => False) w W0) := by rw [hW0]; exact (Only.refl _ _).alloc _
 have HSz : Hid (W0.heap.size = w.heap.size + 1) := by rw [hW0]; simp [Hid]
 have HBox : Hid (∀ W, Only (fun _ => False) W0 W → W.cell? ⟨w.heap.size, 0, none⟩ = some (.slice a_g_packs n_g_packs c_g_packs) ∧ W.cell? ⟨w.heap.size, 1, none⟩ = some (.slice a_g_prefs n_g_prefs c_g_prefs) ∧ W.cell? ⟨w.heap.size, 2, none⟩ = some (.slice a_g_roots n_g_roots c_g_roots) ∧ W.cell? ⟨w.heap.size, 3, none⟩ = some (.slice a_g_c n_g_c c_g_c) ∧ W.cell? ⟨w.heap.size, 4, none⟩ = some (.slice a_g_off n_g_off c_g_off)) := fun W ho => by
  have b0 : W0.heap[w.heap.size]? = some (.cells #[.slice a_g_packs n_g_packs c_g_packs, .slice a_g_prefs n_g_prefs c_g_prefs, .slice a_g_roots n_g_roots c_g_roots, .slice a_g_c n_g_c c_g_c, .slice a_g_off n_g_off c_g_off] 62) := by rw [hW0]; exact alloc_at rfl
  have d0 := only_block b0 ho (fun f => f)
  exact ⟨by rw [cell_block d0]; rfl, by rw [cell_block d0]; rfl, by rw [cell_block d0]; rfl, by rw [cell_block d0]; rfl, by rw [cell_block d0]; rfl⟩
 have HK_g : Hid (∀ W, Only (fun _ => False) W0 W → GC B W [.slice a_g_packs n_g_packs c_g_packs, .slice a_g_prefs n_g_prefs c_g_prefs, .slice a_g_roots n_g_roots c_g_roots, .slice a_g_c n_g_c c_g_c, .slice a_g_off n_g_off c_g_off] g) := fun W ho => GC.keep HH_g.out (Kp.of0 (HOB.out.same ho) : Kp B w W)
 have HR_g_packs : Hid (∀ W, Only (fun _ => False) W0 W → RowT 8 PackC B W (.slice a_g_packs n_g_packs c_g_packs) g.x.packs) := fun W ho => RR_g_packs.out.keep PackC.keep (Kp.of0 (HOB.out.same ho))
 clear RR_g_packs
 have HR_g_prefs : Hid (∀ W, Only (fun _ => False) W0 W → RowT 3 PrefC B W (.slice a_g_prefs n_g_prefs c_g_prefs) g.x.prefs) := fun W ho => RR_g_prefs.out.keep PrefC.keep (Kp.of0 (HOB.out.same ho))
 clear RR_g_prefs
 have HR_g_roots : Hid (∀ W, Only (fun _ => False) W0 W → RowT 4 RootC B W (.slice a_g_roots n_g_roots c_g_roots) g.q.roots) := fun W ho => RR_g_roots.out.keep RootC.keep (Kp.of0 (HOB.out.same ho))
 clear RR_g_roots
 have HR_g_c : Hid (∀ W, Only (fun _ => False) W0 W → RowT 2 CC B W (.slice a_g_c n_g_c c_g_c) g.c) := fun W ho => RR_g_c.out.keep CC.keep (Kp.of0 (HOB.out.same ho))
 clear RR_g_c
 have HR_g_off : Hid (∀ W, Only (fun _ => False) W0 W → RowT 1 BoolC B W (.slice a_g_off n_g_off c_g_off) g.off) := fun W ho => RR_g_off.out.keep BoolC.keep (Kp.of0 (HOB.out.same ho))
 clear RR_g_off
 clear HH_g
 obtain ⟨k0, k1, k2, k3, k4⟩ := HBox.out W0 (Only.refl _ _)
 obtain ⟨r, hr⟩ : ∃ r, onB g.off i = r := ⟨_, rfl⟩
 rw [hr]
 unfold onB at hr
 rw [N_g_off.out] at hr
 by_cases c1 : n_g_off ≤ i
 ·rw [decide_eq_true c1, Bool.true_or] at hr
  subst hr
  rw [hW0] at k0 k1 k2 k3 k4
  go_enter Tryz.func63, Tryz.ntmps63
  go_wp2_with fail
  go_ret
  rw [← hW0]
  exact ⟨rfl, HOB.out⟩
 ·obtain ⟨y, hy⟩ : ∃ y, g.off[i]? = some y := ⟨_, List.getElem?_eq_getElem (by rw [N_g_off.out]; omega)⟩
  obtain ⟨b, off, e1, hE⟩ := BoolC_at (HR_g_off.out W0 (Only.refl _ _)) hy
  subst e1
  have g0 := hE W0 (Only.refl _ _)
  rw [decide_eq_false c1, Bool.false_or, List.getD_eq_getElem?_getD, hy] at hr
  have hr' : (!y) = r := hr
  subst hr'
  clear hE hr
  rw [hW0] at k0 k1 k2 k3 k4 g0
  have c2 : i < n_g_off := by omega
  go_enter Tryz.func63, Tryz.ntmps63
  go_wp2_with fail
  go_ret
  rw [← hW0]
  exact ⟨rfl, HOB.out⟩
structure GR (g : GD) : Prop where
 ru : RuOk g.x g.q (g.x.closure g.q.names)
 few : (rulesOf g.x g.q (g.x.closure g.q.names)).length ≤ 100000
 ok : GOk g
def RuleEnd (g : GD) (w w' : World) (e : Ending) : Prop := ∃ r : Int, e = .returned (.int .i64 r) ∧ -1 ≤ r ∧ r < (rulesOf g.x g.q (g.x.closure g.q.names)).length ∧ Only (fun _ => False) w w'
theorem RuleEnd.mk {g : GD} (r : Int) {w w' : World} {e : Ending} (he : e = .returned (.int .i64 r)) (h1 : -1 ≤ r) (h2 : r < (rulesOf g.x g.q (g.x.closure g.q.names)).length) (ho : Only (fun _ => False) w w') : RuleEnd g w w' e := ⟨r, he, h1, h2, ho⟩
set_option maxRecDepth 100000 in
set_option maxHeartbeats 4000000 in
theorem rule_any {csg : List Value} {g : GD} (hg : GC B w csg g) (hgr : GR g) (kd : Int) (hkd : 0 ≤ kd ∧ kd ≤ 255) (p : Int) (hp : InI64 p) (j : Int) (hj : InI64 j) :
  Calls Tryz.prog 90 #[.agg csg.toArray, .int .u8 kd, .int .i64 p, .int .i64 j] w fun e w' => RuleEnd g w w' e := by
 obtain ⟨L, hL⟩ : ∃ l, rulesOf g.x g.q (g.x.closure g.q.names) = l := ⟨_, rfl⟩
 obtain ⟨nL, hnL⟩ : ∃ n, L.length = n := ⟨_, rfl⟩
 have HLn := Lib.hid hnL
 have HL := Lib.hid hL
 have hnLb : nL ≤ 100000 := by rw [← hnL, ← hL]; exact hgr.few
 have HH_g := Lib.hid hg
 obtain ⟨u1, u2, u3, u4, u5, rfl, r1, r2, r3, r4, r5⟩ := hg
 obtain ⟨a_g_packs, c_g_packs, rfl, g_g_packs, h_g_packs⟩ := r1.shape
 obtain ⟨n_g_packs, e1⟩ : ∃ n, g.x.packs.length = n := ⟨_, rfl⟩
 have N_g_packs := Lib.hid e1
 obtain ⟨a_g_prefs, c_g_prefs, rfl, g_g_prefs, h_g_prefs⟩ := r2.shape
 obtain ⟨n_g_prefs, e2⟩ : ∃ n, g.x.prefs.length = n := ⟨_, rfl⟩
 have N_g_prefs := Lib.hid e2
 obtain ⟨a_g_roots, c_g_roots, rfl, g_g_roots, h_g_roots⟩ := r3.shape
 obtain ⟨n_g_roots, e3⟩ : ∃ n, g.q.roots.length = n := ⟨_, rfl⟩
 have N_g_roots := Lib.hid e3
 obtain ⟨a_g_c, c_g_c, rfl, g_g_c, h_g_c⟩ := r4.shape
 obtain ⟨n_g_c, e4⟩ : ∃ n, g.c.length = n := ⟨_, rfl⟩
 have N_g_c := Lib.hid e4
 obtain ⟨a_g_off, c_g_off, rfl, g_g_off, h_g_off⟩ := r5.shape
 obtain ⟨n_g_off, e5⟩ : ∃ n, g.off.length = n := ⟨_, rfl⟩
 have N_g_off := Lib.hid e5
 rw [e1, e2, e3, e4, e5] at HH_g
 rw [e1] at r1 g_g_packs
 have RR_g_packs := Lib.hid r1
 rw [e2] at r2 g_g_prefs
 have RR_g_prefs := Lib.hid r2
 rw [e3] at r3 g_g_roots
 have RR_g_roots := Lib.hid r3
 rw [e4] at r4 g_g_c
 have RR_g_c := Lib.hid r4
 rw [e5] at r5 g_g_off
 have RR_g_off := Lib.hid r5
 rw [e1, e2, e3, e4, e5]
 clear e1 e2 e3 e4 e5 r1 r2 r3 r4 r5
 obtain ⟨W0, hW0⟩ : ∃ W0, W0 = (w.alloc (.cells #[.slice a_g_packs n_g_packs c_g_packs, .slice a_g_prefs n_g_prefs c_g_prefs, .slice a_g_roots n_g_roots c_g_roots, .slice a_g_c n_g_c c_g_c, .slice a_g_off n_g_off c_g_off] 62)) := ⟨_, rfl⟩
 have HOB : Hid (Only (fun _ => False) w W0) := by rw [hW0]; exact (Only.refl _ _).alloc _
 have HSz : Hid (W0.heap.size = w.heap.size + 1) := by rw [hW0]; simp [Hid]
 have HBox : Hid (∀ W, Only (fun _ => False) W0 W → W.cell? ⟨w.heap.size, 0, none⟩ = some (.slice a_g_packs n_g_packs c_g_packs) ∧ W.cell? ⟨w.heap.size, 1, none⟩ = some (.slice a_g_prefs n_g_prefs c_g_prefs) ∧ W.cell? ⟨w.heap.size, 2, none⟩ = some (.slice a_g_roots n_g_roots c_g_roots) ∧ W.cell? ⟨w.heap.size, 3, none⟩ = some (.slice a_g_c n_g_c c_g_c) ∧ W.cell? ⟨w.heap.size, 4, none⟩ = some (.slice a_g_off n_g_off c_g_off)) := fun W ho => by
  have b0 : W0.heap[w.heap.size]? = some (.cells #[.slice a_g_packs n_g_packs c_g_packs, .slice a_g_prefs n_g_prefs c_g_prefs, .slice a_g_roots n_g_roots c_g_roots, .slice a_g_c n_g_c c_g_c, .slice a_g_off n_g_off c_g_off] 62) := by rw [hW0]; exact alloc_at rfl
  have d0 := only_block b0 ho (fun f => f)
  exact ⟨by rw [cell_block d0]; rfl, by rw [cell_block d0]; rfl, by rw [cell_block d0]; rfl, by rw [cell_block d0]; rfl, by rw [cell_block d0]; rfl⟩
 have HK_g : Hid (∀ W, Only (fun _ => False) W0 W → GC B W [.slice a_g_packs n_g_packs c_g_packs, .slice a_g_prefs n_g_prefs c_g_prefs, .slice a_g_roots n_g_roots c_g_roots, .slice a_g_c n_g_c c_g_c, .slice a_g_off n_g_off c_g_off] g) := fun W ho => GC.keep HH_g.out (Kp.of0 (HOB.out.same ho) : Kp B w W)
 have HR_g_packs : Hid (∀ W, Only (fun _ => False) W0 W → RowT 8 PackC B W (.slice a_g_packs n_g_packs c_g_packs) g.x.packs) := fun W ho => RR_g_packs.out.keep PackC.keep (Kp.of0 (HOB.out.same ho))
 clear RR_g_packs
 have HR_g_prefs : Hid (∀ W, Only (fun _ => False) W0 W → RowT 3 PrefC B W (.slice a_g_prefs n_g_prefs c_g_prefs) g.x.prefs) := fun W ho => RR_g_prefs.out.keep PrefC.keep (Kp.of0 (HOB.out.same ho))
 clear RR_g_prefs
 have HR_g_roots : Hid (∀ W, Only (fun _ => False) W0 W → RowT 4 RootC B W (.slice a_g_roots n_g_roots c_g_roots) g.q.roots) := fun W ho => RR_g_roots.out.keep RootC.keep (Kp.of0 (HOB.out.same ho))
 clear RR_g_roots
 have HR_g_c : Hid (∀ W, Only (fun _ => False) W0 W → RowT 2 CC B W (.slice a_g_c n_g_c c_g_c) g.c) := fun W ho => RR_g_c.out.keep CC.keep (Kp.of0 (HOB.out.same ho))
 clear RR_g_c
 have HR_g_off : Hid (∀ W, Only (fun _ => False) W0 W → RowT 1 BoolC B W (.slice a_g_off n_g_off c_g_off) g.off) := fun W ho => RR_g_off.out.keep BoolC.keep (Kp.of0 (HOB.out.same ho))
 clear RR_g_off
 clear HH_g
 have HRr : Hid (∀ W, Only (fun _ => False) W0 W → Calls Tryz.prog 22 #[.agg #[.slice a_g_packs n_g_packs c_g_packs, .slice a_g_prefs n_g_prefs c_g_prefs], .agg #[.slice a_g_roots n_g_roots c_g_roots]] W fun e w' => ∃ a cp, e = .returned (.slice a nL cp) ∧ RuRow W w' (.slice a nL cp) L ∧ Only (fun _ => False) W w') := fun W ho => by
  have h0 := Rules13_any (HK_g.out W ho).rec_ (HK_g.out W ho).req_ hgr.ru
  rw [hL] at h0
  refine h0.mono ?_
  rintro e w' ⟨v, he, hr, h3⟩
  obtain ⟨a, cp, rfl, -, -⟩ := own_slice hr.1
  rw [HLn.out] at hr he
  exact ⟨a, cp, he, hr, h3⟩
 have HRng : Hid (∀ r ∈ L, (0 ≤ r.kind ∧ r.kind ≤ 255) ∧ InI64 r.pack ∧ InI64 r.idx ∧ InI64 r.line) := by
  rw [← hL]
  exact rules_range (HK_g.out W0 (Only.refl _ _)).rec_ (HK_g.out W0 (Only.refl _ _)).req_ hgr.ru
 clear hL hnL hgr
 obtain ⟨k0, k1, k2, k3, k4⟩ := HBox.out W0 (Only.refl _ _)
 rw [hW0] at k0 k1 k2 k3 k4
 go_enter Tryz.func90, Tryz.ntmps90
 go_wp2_with fail
 rw [← hW0] at k0 k1 k2 k3 k4 ⊢
 clear hW0
 refine (HRr.out W0 (Only.refl _ _)).mono ?_
 rintro e w1 ⟨a1, cp1, rfl, hr1, O1⟩
 have HO1 := Lib.hid O1
 have HA : Hid (∀ W, Only (fun _ => False) w1 W → RowT 4 RuleC w1.heap.size W (.slice a1 nL cp1) L) := fun W ho => (RuRow.read hr1 HRng.out).keep RuleC.keep (Kp.of0 ho)
 have HOC : Hid (Only (fun _ => False) w1 w1) := Only.refl _ _
 clear O1 hr1 k0 k1 k2 k3 k4
 go_wp2_with fail
 go_loopw [18] (fun vi wri => Hid (Only (fun _ => False) w1 wri) ∧ ∃ i : Nat, vi = .int .i64 i ∧ i ≤ nL) (fun v _ => nL - (RowKit.intOf v).toNat)
 case atStart => exact ⟨HOC, 0, rfl, Nat.zero_le _⟩
 case round =>
  obtain ⟨wri, rfl⟩ : ∃ W, W = wr := ⟨_, rfl⟩
  clear HOC
  obtain ⟨HOi, i, rfl, hi⟩ := hrel
  by_cases ci : i < nL
  ·have ewi : IntKind.i64.wrap ((i : Int) + 1) = (i : Int) + 1 := by rw [IntKind.wrap_i64]; omega
   obtain ⟨y, hy⟩ : ∃ y, L[i]? = some y := ⟨_, List.getElem?_eq_getElem (by rw [HLn.out]; exact ci)⟩
   obtain ⟨b, off, e1, -, hE⟩ := RuleC_at (HA.out wri HOi.out) hy
   subst e1
   have hr := hE wri (Only.refl _ _)
   have g0 := hr 0 _ rfl
   have g1 := hr 1 _ rfl
   have g2 := hr 2 _ rfl
   rw [Nat.add_zero] at g0
   clear hr hE hy
   obtain ⟨e1, he1⟩ : ∃ b : Bool, ((y.kind : Int) == kd) = b := ⟨_, rfl⟩
   obtain ⟨e2, he2⟩ : ∃ b : Bool, ((y.pack : Int) == p) = b := ⟨_, rfl⟩
   obtain ⟨e3, he3⟩ : ∃ b : Bool, ((y.idx : Int) == j) = b := ⟨_, rfl⟩
   cases e1 with
   | false =>
    go_wp2_with fail
    go_roundw
    case rel => exact ⟨HOi, i + 1, by first | rfl | go_num, by omega⟩
    case measure => simp [RowKit.intOf] <;> omega
   | true =>
    cases e2 with
    | false =>
     go_wp2_with fail
     go_roundw
     case rel => exact ⟨HOi, i + 1, by first | rfl | go_num, by omega⟩
     case measure => simp [RowKit.intOf] <;> omega
    | true =>
     cases e3 with
     | false =>
      go_wp2_with fail
      go_roundw
      case rel => exact ⟨HOi, i + 1, by first | rfl | go_num, by omega⟩
      case measure => simp [RowKit.intOf] <;> omega
     | true =>
      go_wp2_with fail
      go_ret
      exact RuleEnd.mk _ rfl (by omega) (by rw [HL.out, HLn.out]; omega) (HOB.out.same (HO1.out.same HOi.out))
  ·obtain rfl : nL = i := by omega
   go_wp2_with fail
   go_ret
   exact RuleEnd.mk _ rfl (by omega) (by rw [HL.out, HLn.out]; omega) (HOB.out.same (HO1.out.same HOi.out))
end
section
variable {w w' : World} {B : Nat}
attribute [local irreducible] wpQuiet
theorem there_elim {c : List CD} {p : Int} (h : thereB c p = true) : ∃ pn : Nat, p = pn ∧ pn < c.length ∧ 0 ≤ (c.getD pn default).rel := by
 unfold thereB at h
 simp only [Bool.and_eq_true, decide_eq_true_eq] at h
 obtain ⟨⟨h1, h2⟩, h3⟩ := h
 exact ⟨p.toNat, by omega, by omega, h3⟩
set_option maxRecDepth 100000 in
set_option maxHeartbeats 4000000 in
theorem Meets_any {csg : List Value} {g : GD} (hg : GC B w csg g) {css : List Value} {s : SpecD} (hs : SpecC B w css s) (hgk : GOk g) (p : Int) (hp : InI64 p) :
  Calls Tryz.prog 67 #[.agg csg.toArray, .int .i64 p, .agg css.toArray] w fun e w' => BoolIf (thereB g.c p = true) w w' e := by
 have HH_g := Lib.hid hg
 obtain ⟨u1, u2, u3, u4, u5, rfl, r1, r2, r3, r4, r5⟩ := hg
 obtain ⟨a_g_packs, c_g_packs, rfl, g_g_packs, h_g_packs⟩ := r1.shape
 obtain ⟨n_g_packs, e1⟩ : ∃ n, g.x.packs.length = n := ⟨_, rfl⟩
 have N_g_packs := Lib.hid e1
 obtain ⟨a_g_prefs, c_g_prefs, rfl, g_g_prefs, h_g_prefs⟩ := r2.shape
 obtain ⟨n_g_prefs, e2⟩ : ∃ n, g.x.prefs.length = n := ⟨_, rfl⟩
 have N_g_prefs := Lib.hid e2
 obtain ⟨a_g_roots, c_g_roots, rfl, g_g_roots, h_g_roots⟩ := r3.shape
 obtain ⟨n_g_roots, e3⟩ : ∃ n, g.q.roots.length = n := ⟨_, rfl⟩
 have N_g_roots := Lib.hid e3
 obtain ⟨a_g_c, c_g_c, rfl, g_g_c, h_g_c⟩ := r4.shape
 obtain ⟨n_g_c, e4⟩ : ∃ n, g.c.length = n := ⟨_, rfl⟩
 have N_g_c := Lib.hid e4
 obtain ⟨a_g_off, c_g_off, rfl, g_g_off, h_g_off⟩ := r5.shape
 obtain ⟨n_g_off, e5⟩ : ∃ n, g.off.length = n := ⟨_, rfl⟩
 have N_g_off := Lib.hid e5
 rw [e1, e2, e3, e4, e5] at HH_g
 rw [e1] at r1 g_g_packs
 have RR_g_packs := Lib.hid r1
 rw [e2] at r2 g_g_prefs
 have RR_g_prefs := Lib.hid r2
 rw [e3] at r3 g_g_roots
 have RR_g_roots := Lib.hid r3
 rw [e4] at r4 g_g_c
 have RR_g_c := Lib.hid r4
 rw [e5] at r5 g_g_off
 have RR_g_off := Lib.hid r5
 rw [e1, e2, e3, e4, e5]
 clear e1 e2 e3 e4 e5 r1 r2 r3 r4 r5
 have HH_s := Lib.hid hs
 obtain ⟨u1, u2, rfl, -, r1, r2⟩ := hs
 obtain ⟨a_s_spans, c_s_spans, rfl, g_s_spans, h_s_spans⟩ := r1.shape
 obtain ⟨n_s_spans, e1⟩ : ∃ n, s.spans.length = n := ⟨_, rfl⟩
 have N_s_spans := Lib.hid e1
 obtain ⟨a_s_sets, c_s_sets, rfl, g_s_sets, h_s_sets⟩ := r2.shape
 obtain ⟨n_s_sets, e2⟩ : ∃ n, s.sets.length = n := ⟨_, rfl⟩
 have N_s_sets := Lib.hid e2
 rw [e1, e2] at HH_s
 rw [e1] at r1 g_s_spans
 have RR_s_spans := Lib.hid r1
 rw [e2] at r2 g_s_sets
 have RR_s_sets := Lib.hid r2
 rw [e1, e2]
 clear e1 e2 r1 r2
 obtain ⟨W0, hW0⟩ : ∃ W0, W0 = ((w.alloc (.cells #[.slice a_g_packs n_g_packs c_g_packs, .slice a_g_prefs n_g_prefs c_g_prefs, .slice a_g_roots n_g_roots c_g_roots, .slice a_g_c n_g_c c_g_c, .slice a_g_off n_g_off c_g_off] 62)).alloc (.cells #[.string s.name, .slice a_s_spans n_s_spans c_s_spans, .slice a_s_sets n_s_sets c_s_sets] 49)) := ⟨_, rfl⟩
 have HOB : Hid (Only (fun _ => False) w W0) := by rw [hW0]; exact ((Only.refl _ _).alloc _).alloc _
 have HSz : Hid (W0.heap.size = w.heap.size + 2) := by rw [hW0]; simp [Hid]
 have HBox : Hid (∀ W, Only (fun _ => False) W0 W → W.cell? ⟨w.heap.size, 0, none⟩ = some (.slice a_g_packs n_g_packs c_g_packs) ∧ W.cell? ⟨w.heap.size, 1, none⟩ = some (.slice a_g_prefs n_g_prefs c_g_prefs) ∧ W.cell? ⟨w.heap.size, 2, none⟩ = some (.slice a_g_roots n_g_roots c_g_roots) ∧ W.cell? ⟨w.heap.size, 3, none⟩ = some (.slice a_g_c n_g_c c_g_c) ∧ W.cell? ⟨w.heap.size, 4, none⟩ = some (.slice a_g_off n_g_off c_g_off) ∧ W.cell? ⟨w.heap.size + 1, 0, none⟩ = some (.string s.name) ∧ W.cell? ⟨w.heap.size + 1, 1, none⟩ = some (.slice a_s_spans n_s_spans c_s_spans) ∧ W.cell? ⟨w.heap.size + 1, 2, none⟩ = some (.slice a_s_sets n_s_sets c_s_sets)) := fun W ho => by
  have b0 : W0.heap[w.heap.size]? = some (.cells #[.slice a_g_packs n_g_packs c_g_packs, .slice a_g_prefs n_g_prefs c_g_prefs, .slice a_g_roots n_g_roots c_g_roots, .slice a_g_c n_g_c c_g_c, .slice a_g_off n_g_off c_g_off] 62) := by rw [hW0]; exact alloc_block (alloc_at rfl) _
  have d0 := only_block b0 ho (fun f => f)
  have b1 : W0.heap[w.heap.size + 1]? = some (.cells #[.string s.name, .slice a_s_spans n_s_spans c_s_spans, .slice a_s_sets n_s_sets c_s_sets] 49) := by rw [hW0]; exact alloc_at (by simp)
  have d1 := only_block b1 ho (fun f => f)
  exact ⟨by rw [cell_block d0]; rfl, by rw [cell_block d0]; rfl, by rw [cell_block d0]; rfl, by rw [cell_block d0]; rfl, by rw [cell_block d0]; rfl, by rw [cell_block d1]; rfl, by rw [cell_block d1]; rfl, by rw [cell_block d1]; rfl⟩
 have HK_g : Hid (∀ W, Only (fun _ => False) W0 W → GC B W [.slice a_g_packs n_g_packs c_g_packs, .slice a_g_prefs n_g_prefs c_g_prefs, .slice a_g_roots n_g_roots c_g_roots, .slice a_g_c n_g_c c_g_c, .slice a_g_off n_g_off c_g_off] g) := fun W ho => GC.keep HH_g.out (Kp.of0 (HOB.out.same ho) : Kp B w W)
 have HR_g_packs : Hid (∀ W, Only (fun _ => False) W0 W → RowT 8 PackC B W (.slice a_g_packs n_g_packs c_g_packs) g.x.packs) := fun W ho => RR_g_packs.out.keep PackC.keep (Kp.of0 (HOB.out.same ho))
 clear RR_g_packs
 have HR_g_prefs : Hid (∀ W, Only (fun _ => False) W0 W → RowT 3 PrefC B W (.slice a_g_prefs n_g_prefs c_g_prefs) g.x.prefs) := fun W ho => RR_g_prefs.out.keep PrefC.keep (Kp.of0 (HOB.out.same ho))
 clear RR_g_prefs
 have HR_g_roots : Hid (∀ W, Only (fun _ => False) W0 W → RowT 4 RootC B W (.slice a_g_roots n_g_roots c_g_roots) g.q.roots) := fun W ho => RR_g_roots.out.keep RootC.keep (Kp.of0 (HOB.out.same ho))
 clear RR_g_roots
 have HR_g_c : Hid (∀ W, Only (fun _ => False) W0 W → RowT 2 CC B W (.slice a_g_c n_g_c c_g_c) g.c) := fun W ho => RR_g_c.out.keep CC.keep (Kp.of0 (HOB.out.same ho))
 clear RR_g_c
 have HR_g_off : Hid (∀ W, Only (fun _ => False) W0 W → RowT 1 BoolC B W (.slice a_g_off n_g_off c_g_off) g.off) := fun W ho => RR_g_off.out.keep BoolC.keep (Kp.of0 (HOB.out.same ho))
 clear RR_g_off
 clear HH_g
 have HK_s : Hid (∀ W, Only (fun _ => False) W0 W → SpecC B W [.string s.name, .slice a_s_spans n_s_spans c_s_spans, .slice a_s_sets n_s_sets c_s_sets] s) := fun W ho => SpecC.keep HH_s.out (Kp.of0 (HOB.out.same ho) : Kp B w W)
 have HR_s_spans : Hid (∀ W, Only (fun _ => False) W0 W → RowT 2 SpanC B W (.slice a_s_spans n_s_spans c_s_spans) s.spans) := fun W ho => RR_s_spans.out.keep SpanC.keep (Kp.of0 (HOB.out.same ho))
 clear RR_s_spans
 have HR_s_sets : Hid (∀ W, Only (fun _ => False) W0 W → RowT 2 SetC B W (.slice a_s_sets n_s_sets c_s_sets) s.sets) := fun W ho => RR_s_sets.out.keep SetC.keep (Kp.of0 (HOB.out.same ho))
 clear RR_s_sets
 clear HH_s
 have HGk := Lib.hid hgk
 obtain ⟨r, hr⟩ : ∃ r, thereB g.c p = r := ⟨_, rfl⟩
 have HTh : Hid (∀ W, Only (fun _ => False) W0 W → Calls Tryz.prog 64 #[.agg #[.slice a_g_packs n_g_packs c_g_packs, .slice a_g_prefs n_g_prefs c_g_prefs, .slice a_g_roots n_g_roots c_g_roots, .slice a_g_c n_g_c c_g_c, .slice a_g_off n_g_off c_g_off], .int .i64 p] W fun e w' => e = .returned (.bool r) ∧ Only (fun _ => False) W w') := fun W hW => by rw [← hr]; exact There_any (HK_g.out W hW) p hp
 rw [hr]
 obtain ⟨k0, k1, k2, k3, k4, k5, k6, k7⟩ := HBox.out W0 (Only.refl _ _)
 rw [hW0] at k0 k1 k2 k3 k4 k5 k6 k7
 go_enter Tryz.func67, Tryz.ntmps67
 go_wp2_with fail
 rw [← hW0] at k0 k1 k2 k3 k4 k5 k6 k7 ⊢
 clear hW0
 refine (HTh.out W0 (Only.refl _ _)).mono ?_
 rintro e w1 ⟨rfl, O1⟩
 have HO1 := Lib.hid O1
 clear O1 k0 k1 k2 k3 k4 k5 k6 k7
 obtain ⟨k0, k1, k2, k3, k4, k5, k6, k7⟩ := HBox.out w1 HO1.out
 cases r with
 | false =>
  clear hgk
  go_wp2_with fail
  go_ret
  exact BoolIf.mk false rfl (fun h => by cases h) (HOB.out.same HO1.out)
 | true =>
  have HThere : Hid (true = true) := rfl
  obtain ⟨pn, rfl, hpc, hrel⟩ := there_elim hr
  have hpx : pn < g.x.packs.length := by rw [← hgk.len]; exact hpc
  have hcd := hgk.ok pn hpx
  rw [N_g_packs.out] at hpx
  rw [N_g_c.out] at hpc
  obtain ⟨yy, hxy⟩ : ∃ y, g.x.packs[pn]? = some y := ⟨_, List.getElem?_eq_getElem (by rw [N_g_packs.out]; omega)⟩
  obtain ⟨bky, offy, ay1, ny1, cy1, ay2, ny2, cy2, ay3, ny3, cy3, ay4, ny4, cy4, ay5, ny5, cy5, ay6, ny6, cy6, hey, N0y1, N0y2, N0y3, N0y4, N0y5, N0y6, oky1, iny1, HE0y⟩ := PackC_at (HR_g_packs.out W0 (Only.refl _ _)) hxy
  first
   | subst hey
   | (simp only [Option.some.injEq, Addr.mk.injEq, and_true] at hey; obtain ⟨rfl, rfl⟩ := hey)
  have Ny1 := Lib.hid N0y1
  have Ny2 := Lib.hid N0y2
  have Ny3 := Lib.hid N0y3
  have Ny4 := Lib.hid N0y4
  have Ny5 := Lib.hid N0y5
  have Ny6 := Lib.hid N0y6
  have HEy := Lib.hid HE0y
  have HXy := Lib.hid hxy
  clear HE0y hxy N0y1 N0y2 N0y3 N0y4 N0y5 N0y6
  have HRy1 : Hid (∀ W, Only (fun _ => False) W0 W → RowT 2 RelC B W (.slice ay1 ny1 cy1) yy.rels) := fun W ho => (HEy.out W ho).2.1
  have HRy2 : Hid (∀ W, Only (fun _ => False) W0 W → RowT 2 VarC B W (.slice ay2 ny2 cy2) yy.vars) := fun W ho => (HEy.out W ho).2.2.1
  have HRy3 : Hid (∀ W, Only (fun _ => False) W0 W → RowT 1 StrC B W (.slice ay3 ny3 cy3) yy.provides) := fun W ho => (HEy.out W ho).2.2.2.1
  have HRy4 : Hid (∀ W, Only (fun _ => False) W0 W → RowT 7 DepC B W (.slice ay4 ny4 cy4) yy.deps) := fun W ho => (HEy.out W ho).2.2.2.2.1
  have HRy5 : Hid (∀ W, Only (fun _ => False) W0 W → RowT 7 ConC B W (.slice ay5 ny5 cy5) yy.cons) := fun W ho => (HEy.out W ho).2.2.2.2.2.1
  have HRy6 : Hid (∀ W, Only (fun _ => False) W0 W → RowT 1 StrC B W (.slice ay6 ny6 cy6) yy.files) := fun W ho => (HEy.out W ho).2.2.2.2.2.2.1
  have HCy : Hid (∀ W, Only (fun _ => False) W0 W → PackC B W [.string yy.name, .int .i64 yy.line, .slice ay1 ny1 cy1, .slice ay2 ny2 cy2, .slice ay3 ny3 cy3, .slice ay4 ny4 cy4, .slice ay5 ny5 cy5, .slice ay6 ny6 cy6] yy) := fun W ho => (HEy.out W ho).2.2.2.2.2.2.2
  obtain ⟨yc, hxc⟩ : ∃ y, g.c[pn]? = some y := ⟨_, List.getElem?_eq_getElem (by rw [N_g_c.out]; omega)⟩
  obtain ⟨bkc, offc, ac1, nc1, cc1, hec, N0c1, inc1, HE0c⟩ := CC_at (HR_g_c.out W0 (Only.refl _ _)) hxc
  first
   | subst hec
   | (simp only [Option.some.injEq, Addr.mk.injEq, and_true] at hec; obtain ⟨rfl, rfl⟩ := hec)
  have Nc1 := Lib.hid N0c1
  have HEc := Lib.hid HE0c
  have HXc := Lib.hid hxc
  clear HE0c hxc N0c1
  have HRc1 : Hid (∀ W, Only (fun _ => False) W0 W → RowT 1 IntC B W (.slice ac1 nc1 cc1) yc.vals) := fun W ho => (HEc.out W ho).2.1
  have HCc : Hid (∀ W, Only (fun _ => False) W0 W → CC B W [.int .i64 yc.rel, .slice ac1 nc1 cc1] yc) := fun W ho => (HEc.out W ho).2.2
  have e1 : g.c.getD pn default = yc := by rw [List.getD_eq_getElem?_getD, HXc.out]; rfl
  have e2 : g.x.pack pn = yy := by unfold RecD.pack; rw [List.getD_eq_getElem?_getD, HXy.out]; rfl
  rw [e1] at hrel hcd
  rw [e2] at hcd
  have HCd := Lib.hid hcd
  have HRl := Lib.hid hrel
  have hhi := hcd.hi
  have hlen := hcd.len hrel
  rw [Nc1.out, Ny2.out] at hlen
  rw [Ny1.out] at hhi
  obtain ⟨rn, hrn⟩ : ∃ n : Nat, yc.rel = n := ⟨yc.rel.toNat, by omega⟩
  have HRn := Lib.hid hrn
  have hrn1 : rn < ny1 := by omega
  obtain ⟨_, _, -, hb3, hb4⟩ := (HRy2.out W0 (Only.refl _ _)).shape
  rw [Ny2.out] at hb3
  obtain rfl : ny2 = nc1 := hlen.symm
  clear hcd hgk hr e1 e2 hrel hhi hrn
  have hry := Lib.hid (HEy.out w1 HO1.out).1
  obtain ⟨W1, hW1⟩ : ∃ W, W = w1.alloc (.cells #[.string yy.name, .int .i64 yy.line, .slice ay1 ny1 cy1, .slice ay2 ny2 cy2, .slice ay3 ny3 cy3, .slice ay4 ny4 cy4, .slice ay5 ny5 cy5, .slice ay6 ny6 cy6] 43) := ⟨_, rfl⟩
  have HP0 : Hid (Only (fun _ => False) w1 W1) := by rw [hW1]; exact (Only.refl _ _).alloc _
  have HBd : Hid (∀ W, Only (fun _ => False) W1 W → W.cell? ⟨w1.heap.size, 0, none⟩ = some (.string yy.name) ∧ W.cell? ⟨w1.heap.size, 1, none⟩ = some (.int .i64 yy.line) ∧ W.cell? ⟨w1.heap.size, 2, none⟩ = some (.slice ay1 ny1 cy1) ∧ W.cell? ⟨w1.heap.size, 3, none⟩ = some (.slice ay2 ny2 cy2) ∧ W.cell? ⟨w1.heap.size, 4, none⟩ = some (.slice ay3 ny3 cy3) ∧ W.cell? ⟨w1.heap.size, 5, none⟩ = some (.slice ay4 ny4 cy4) ∧ W.cell? ⟨w1.heap.size, 6, none⟩ = some (.slice ay5 ny5 cy5) ∧ W.cell? ⟨w1.heap.size, 7, none⟩ = some (.slice ay6 ny6 cy6)) := fun W ho => by
   have b0 : W1.heap[w1.heap.size]? = some (.cells #[.string yy.name, .int .i64 yy.line, .slice ay1 ny1 cy1, .slice ay2 ny2 cy2, .slice ay3 ny3 cy3, .slice ay4 ny4 cy4, .slice ay5 ny5 cy5, .slice ay6 ny6 cy6] 43) := by rw [hW1]; exact heap_alloc_new w1 _
   have b1 := only_block b0 ho (fun f => f)
   exact ⟨by rw [cell_block b1]; rfl, by rw [cell_block b1]; rfl, by rw [cell_block b1]; rfl, by rw [cell_block b1]; rfl, by rw [cell_block b1]; rfl, by rw [cell_block b1]; rfl, by rw [cell_block b1]; rfl, by rw [cell_block b1]; rfl⟩
  obtain ⟨yr, hxr⟩ : ∃ y, yy.rels[rn]? = some y := ⟨_, List.getElem?_eq_getElem (by rw [Ny1.out]; omega)⟩
  obtain ⟨bkr, offr, her, okr1, HE0r⟩ := RelC_at (HRy1.out W0 (Only.refl _ _)) hxr
  first
   | subst her
   | (simp only [Option.some.injEq, Addr.mk.injEq, and_true] at her; obtain ⟨rfl, rfl⟩ := her)
  have HEr := Lib.hid HE0r
  have HXr := Lib.hid hxr
  clear HE0r hxr
  have HCr : Hid (∀ W, Only (fun _ => False) W0 W → RelC B W [.string yr.version, .bool yr.old] yr) := fun W ho => (HEr.out W ho).2
  have HUp : Hid (∀ W, Only (fun _ => False) W1 W → Only (fun _ => False) W0 W) := fun W hW => HO1.out.same (HP0.out.same hW)
  have HHs : Hid (∀ W, Only (fun _ => False) W1 W → Calls Tryz.prog 91 #[.slice a_s_spans n_s_spans c_s_spans, .string yr.version] W fun e w' => SomeBool W w' e) := fun W hW => HasSs_some (HR_s_spans.out W (HUp.out W hW)) yr.version okr1
  go_wp2_with (refine wpList_load_mid rfl 43 (.tmp 20) rfl bky (offy + pn * 8) rfl _ _ hry.out Tryz.underlying43 rfl (by kernel_rfl) ?_)
  rw [← hW1]
  clear hW1 hry
  clear k0 k1 k2 k3 k4 k5 k6 k7
  go_wp2_with fail
  refine wp_region_G (n := 15) (E := fun _ => false) (S := fun W => Only (fun _ => False) W1 W) (by kernel_rfl) rfl (by exact (Only.refl _ _).drew) (fun hHeld => ?_)
  refine tqW (i := 0) (v := ?_) rfl (.inr (by assumption)) ?_ ?_
  rotate_left
  ·(intro w; go_simp <;> (try with_reducible rfl))
  try simp only [Act.put, zq1, zq3, zq4, zq5, zq6]
  refine tqK (i := 1) (v := ?_) rfl ?_ ?_
  rotate_left
  ·(intro w hSw; obtain ⟨k0, k1, k2, k3, k4, k5, k6, k7⟩ := HBox.out w (HUp.out w hSw); obtain ⟨-, -, d2, -⟩ := HBd.out w hSw; have hrc := (HEc.out w (HUp.out w hSw)).1; have gc0 := hrc 0 _ rfl; rw [Nat.add_zero] at gc0; clear hrc; rw [HRn.out] at gc0; have hrr := (HEr.out w (HUp.out w hSw)).1; have gr0 := hrr 0 _ rfl; rw [Nat.add_zero] at gr0; clear hrr; go_simp <;> (try with_reducible rfl))
  try simp only [Act.put, zq1, zq2, zq3, zq4, zq5, zq6]
  refine tqW (i := 2) (v := ?_) rfl (.inr (by assumption)) ?_ ?_
  rotate_left
  ·(intro w; go_simp <;> (try with_reducible rfl))
  try simp only [Act.put, zq1, zq2, zq3, zq4, zq5, zq6]
  refine tqK (i := 3) (v := ?_) rfl ?_ ?_
  rotate_left
  ·(intro w hSw; obtain ⟨k0, k1, k2, k3, k4, k5, k6, k7⟩ := HBox.out w (HUp.out w hSw); obtain ⟨-, -, d2, -⟩ := HBd.out w hSw; have hrc := (HEc.out w (HUp.out w hSw)).1; have gc0 := hrc 0 _ rfl; rw [Nat.add_zero] at gc0; clear hrc; rw [HRn.out] at gc0; have hrr := (HEr.out w (HUp.out w hSw)).1; have gr0 := hrr 0 _ rfl; rw [Nat.add_zero] at gr0; clear hrr; go_simp <;> (try with_reducible rfl))
  try simp only [Act.put, zq1, zq2, zq3, zq4, zq5, zq6]
  refine tqW (i := 4) (v := ?_) rfl (.inr (by assumption)) ?_ ?_
  rotate_left
  ·(intro w; go_simp <;> (try with_reducible rfl))
  try simp only [Act.put, zq1, zq2, zq3, zq4, zq5, zq6]
  refine tqK (i := 5) (v := ?_) rfl ?_ ?_
  rotate_left
  ·(intro w hSw; obtain ⟨k0, k1, k2, k3, k4, k5, k6, k7⟩ := HBox.out w (HUp.out w hSw); obtain ⟨-, -, d2, -⟩ := HBd.out w hSw; have hrc := (HEc.out w (HUp.out w hSw)).1; have gc0 := hrc 0 _ rfl; rw [Nat.add_zero] at gc0; clear hrc; rw [HRn.out] at gc0; have hrr := (HEr.out w (HUp.out w hSw)).1; have gr0 := hrr 0 _ rfl; rw [Nat.add_zero] at gr0; clear hrr; go_simp <;> (try with_reducible rfl))
  try simp only [Act.put, zq1, zq2, zq3, zq4, zq5, zq6]
  refine tqW (i := 6) (v := ?_) rfl (.inr (by assumption)) ?_ ?_
  rotate_left
  ·(intro w; go_simp <;> (try with_reducible rfl))
  try simp only [Act.put, zq1, zq2, zq3, zq4, zq5, zq6]
  refine tqW (i := 7) (v := ?_) rfl (.inr (by assumption)) ?_ ?_
  rotate_left
  ·(intro w; go_simp <;> (try with_reducible rfl))
  try simp only [Act.put, zq1, zq2, zq3, zq4, zq5, zq6]
  refine tqW (i := 8) (v := ?_) rfl (.inr (by assumption)) ?_ ?_
  rotate_left
  ·(intro w; go_simp <;> (try with_reducible rfl))
  try simp only [Act.put, zq1, zq2, zq3, zq4, zq5, zq6]
  refine tqK (i := 9) (v := ?_) rfl ?_ ?_
  rotate_left
  ·(intro w hSw; obtain ⟨k0, k1, k2, k3, k4, k5, k6, k7⟩ := HBox.out w (HUp.out w hSw); obtain ⟨-, -, d2, -⟩ := HBd.out w hSw; have hrc := (HEc.out w (HUp.out w hSw)).1; have gc0 := hrc 0 _ rfl; rw [Nat.add_zero] at gc0; clear hrc; rw [HRn.out] at gc0; have hrr := (HEr.out w (HUp.out w hSw)).1; have gr0 := hrr 0 _ rfl; rw [Nat.add_zero] at gr0; clear hrr; go_simp <;> (try with_reducible rfl))
  try simp only [Act.put, zq1, zq2, zq3, zq4, zq5, zq6]
  refine tqW (i := 10) (v := ?_) rfl (.inr (by assumption)) ?_ ?_
  rotate_left
  ·(intro w; go_simp <;> (try with_reducible rfl))
  try simp only [Act.put, zq1, zq2, zq3, zq4, zq5, zq6]
  refine tqW (i := 11) (v := ?_) rfl (.inr (by assumption)) ?_ ?_
  rotate_left
  ·(intro w; go_simp <;> (try with_reducible rfl))
  try simp only [Act.put, zq1, zq2, zq3, zq4, zq5, zq6]
  refine tqK (i := 12) (v := ?_) rfl ?_ ?_
  rotate_left
  ·(intro w hSw; obtain ⟨k0, k1, k2, k3, k4, k5, k6, k7⟩ := HBox.out w (HUp.out w hSw); obtain ⟨-, -, d2, -⟩ := HBd.out w hSw; have hrc := (HEc.out w (HUp.out w hSw)).1; have gc0 := hrc 0 _ rfl; rw [Nat.add_zero] at gc0; clear hrc; rw [HRn.out] at gc0; have hrr := (HEr.out w (HUp.out w hSw)).1; have gr0 := hrr 0 _ rfl; rw [Nat.add_zero] at gr0; clear hrr; go_simp <;> (try with_reducible rfl))
  try simp only [Act.put, zq1, zq2, zq3, zq4, zq5, zq6]
  refine wpAnyG_ready (rs := [13]) (by kernel_rfl) (by simp) ?_
  refine AllReadyG.cons (i := 13) rfl (fun K hK => ?_) ?_
  ·(go_simp; refine (HHs.out _ hHeld).mono ?_; rintro e w5 ⟨b, rfl, o5⟩; try go_wp2_with fail)
   refine hK.out _ _ ?_ (fun hHeld => ?_)
   ·(try dsimp only) <;> (exact Only.same hHeld o5)
   clear hK K
   try simp only [Act.put, zq1, zq2, zq3, zq4, zq5, zq6]
   refine tqW (i := 14) (v := ?_) rfl (.inr (by assumption)) ?_ ?_
   rotate_left
   ·(intro w; go_simp <;> (try with_reducible rfl))
   try simp only [Act.put, zq1, zq2, zq3, zq4, zq5, zq6]
   refine wpAnyG_done (by kernel_rfl) ?_ _
   have HP7 := Lib.hid hHeld
   clear hHeld HHs
   cases b with
   | false =>
    simp only [Bool.not_false]
    go_wp2_with fail
    go_ret
    exact BoolIf.mk false rfl (fun h => by cases h) (HOB.out.same (HUp.out _ HP7.out))
   | true =>
    simp only [Bool.not_true]
    have HOC := HP7
    obtain ⟨k0, k1, k2, k3, k4, k5, k6, k7⟩ := HBox.out _ (HUp.out _ HP7.out)
    go_wp2_with fail
    clear k0 k1 k2 k3 k4 k5 k6 k7
    go_loopw [40] (fun vi wri => Hid (Only (fun _ => False) W1 wri) ∧ ∃ i : Nat, vi = .int .i64 i ∧ i ≤ n_s_sets) (fun v _ => n_s_sets - (RowKit.intOf v).toNat)
    case atStart => exact ⟨HOC, 0, rfl, Nat.zero_le _⟩
    case round =>
     obtain ⟨wri, rfl⟩ : ∃ W, W = wr := ⟨_, rfl⟩
     clear HOC
     obtain ⟨HPi, i, rfl, hi⟩ := hrel
     by_cases ci : i < n_s_sets
     ·have ewi : IntKind.i64.wrap ((i : Int) + 1) = (i : Int) + 1 := by rw [IntKind.wrap_i64]; omega
      obtain ⟨yt, hxt⟩ : ∃ y, s.sets[i]? = some y := ⟨_, List.getElem?_eq_getElem (by rw [N_s_sets.out]; omega)⟩
      obtain ⟨bkt, offt, het, okt1, okt2, HE0t⟩ := SetC_at (HR_s_sets.out W0 (Only.refl _ _)) hxt
      first
       | subst het
       | (simp only [Option.some.injEq, Addr.mk.injEq, and_true] at het; obtain ⟨rfl, rfl⟩ := het)
      have HEt := Lib.hid HE0t
      have HXt := Lib.hid hxt
      clear HE0t hxt
      have HCt : Hid (∀ W, Only (fun _ => False) W0 W → SetC B W [.string yt.name, .string yt.value] yt) := fun W ho => (HEt.out W ho).2
      have d3 := (HBd.out wri HPi.out).2.2.2.1
      have HOC := HPi
      go_wp2_with fail
      clear d3
      go_loopw [46, 9] (fun vk vf wrk => Hid (Only (fun _ => False) W1 wrk) ∧ ∃ (k : Nat) (f : Bool), vk = .int .i64 k ∧ k ≤ ny2 ∧ vf = .bool f) (fun v _ _ => ny2 - (RowKit.intOf v).toNat)
      case atStart => exact ⟨HOC, 0, false, rfl, Nat.zero_le _, rfl⟩
      case round =>
       obtain ⟨wrk, rfl⟩ : ∃ W, W = wr := ⟨_, rfl⟩
       clear HOC
       obtain ⟨HPk, k, f, rfl, hk, rfl⟩ := hrel
       by_cases ck : k < ny2
       ·have ewi : IntKind.i64.wrap ((k : Int) + 1) = (k : Int) + 1 := by rw [IntKind.wrap_i64]; omega
        obtain ⟨yz, hxz⟩ : ∃ y, yy.vars[k]? = some y := ⟨_, List.getElem?_eq_getElem (by rw [Ny2.out]; omega)⟩
        obtain ⟨bkz, offz, az1, nz1, cz1, hez, N0z1, okz1, HE0z⟩ := VarC_at (HRy2.out W0 (Only.refl _ _)) hxz
        first
         | subst hez
         | (simp only [Option.some.injEq, Addr.mk.injEq, and_true] at hez; obtain ⟨rfl, rfl⟩ := hez)
        have Nz1 := Lib.hid N0z1
        have HEz := Lib.hid HE0z
        have HXz := Lib.hid hxz
        clear HE0z hxz N0z1
        have HRz1 : Hid (∀ W, Only (fun _ => False) W0 W → RowT 1 StrC B W (.slice az1 nz1 cz1) yz.values) := fun W ho => (HEz.out W ho).2.1
        have HCz : Hid (∀ W, Only (fun _ => False) W0 W → VarC B W [.string yz.name, .slice az1 nz1 cz1] yz) := fun W ho => (HEz.out W ho).2.2
        obtain ⟨v, hv⟩ : ∃ v, yc.vals[k]? = some v := ⟨_, List.getElem?_eq_getElem (by rw [Nc1.out]; omega)⟩
        obtain ⟨vlo, vhi⟩ := HCd.out.vals HRl.out k (by rw [Ny2.out]; exact ck)
        rw [List.getD_eq_getElem?_getD, hv] at vlo vhi
        rw [List.getD_eq_getElem?_getD, HXz.out] at vhi
        have vlo' : 0 ≤ v := vlo
        have vhi' : v < (yz.values.length : Int) := vhi
        obtain ⟨vn, rfl⟩ : ∃ n : Nat, v = n := ⟨v.toNat, by omega⟩
        rw [Nz1.out] at vhi'
        obtain ⟨biv, oiv, eiv, -, hIv⟩ := IntC_at (HRc1.out W0 (Only.refl _ _)) hv
        subst eiv
        have HIv := Lib.hid hIv
        clear hIv hv vlo vhi vlo'
        have hrz := Lib.hid (HEz.out wrk (HUp.out wrk HPk.out)).1
        obtain ⟨W2, hW2⟩ : ∃ W, W = wrk.alloc (.cells #[.string yz.name, .slice az1 nz1 cz1] 99) := ⟨_, rfl⟩
        have HP2 : Hid (Only (fun _ => False) W1 W2) := by rw [hW2]; exact (HPk.out).alloc _
        have HBe : Hid (∀ W, Only (fun _ => False) W2 W → W.cell? ⟨wrk.heap.size, 0, none⟩ = some (.string yz.name) ∧ W.cell? ⟨wrk.heap.size, 1, none⟩ = some (.slice az1 nz1 cz1)) := fun W ho => by
         have b0 : W2.heap[wrk.heap.size]? = some (.cells #[.string yz.name, .slice az1 nz1 cz1] 99) := by rw [hW2]; exact heap_alloc_new wrk _
         have b1 := only_block b0 ho (fun f => f)
         exact ⟨by rw [cell_block b1]; rfl, by rw [cell_block b1]; rfl⟩
        obtain ⟨yu, hxu⟩ : ∃ y, yz.values[vn]? = some y := ⟨_, List.getElem?_eq_getElem (by rw [Nz1.out]; omega)⟩
        obtain ⟨bku, offu, heu, oku1, HE0u⟩ := StrC_at (HRz1.out W0 (Only.refl _ _)) hxu
        first
         | subst heu
         | (simp only [Option.some.injEq, Addr.mk.injEq, and_true] at heu; obtain ⟨rfl, rfl⟩ := heu)
        have HEu := Lib.hid HE0u
        have HXu := Lib.hid hxu
        clear HE0u hxu
        have HCu : Hid (∀ W, Only (fun _ => False) W0 W → StrC B W [.string yu] yu) := fun W ho => (HEu.out W ho).2
        have HUp2 : Hid (∀ W, Only (fun _ => False) W2 W → Only (fun _ => False) W1 W) := fun W hW => HP2.out.same hW
        have d3 := (HBd.out W2 HP2.out).2.2.2.1
        have d3' := (HBd.out wrk HPk.out).2.2.2.1
        have hbd := bytes_dec yz.name yt.name
        obtain ⟨bb, hbb⟩ : ∃ b, decide (yz.name = yt.name) = b := ⟨_, rfl⟩
        rw [hbb] at hbd
        have hbd2 := bytes_dec yu yt.value
        obtain ⟨b2, hbb2⟩ : ∃ b, decide (yu = yt.value) = b := ⟨_, rfl⟩
        rw [hbb2] at hbd2
        clear hbb hbb2
        go_wp2_with (refine wpList_load_mid rfl 99 (.tmp 52) rfl bkz (offz + k * 2) rfl _ _ hrz.out Tryz.underlying99 rfl (by kernel_rfl) ?_)
        rw [← hW2]
        clear hW2 hrz
        cases f with
        | true =>
         go_wp2_with fail
         refine wp_region_Q (fun w' => Only (fun _ => False) W2 w') (by kernel_rfl) (by kernel_rfl) (by exact (Only.refl _ W2).drew) ?_
         refine wpQ_val (v := ?_) (by rfl) ?_ ?_
         rotate_left
         ·(intro w hSw; (try dsimp only at hSw); go_simp <;> (try with_reducible rfl))
         try simp only [Act.put, zq4, zq5, zq6]
         refine wpQ_val (v := ?_) (by rfl) ?_ ?_
         rotate_left
         ·(intro w hSw; (try dsimp only at hSw); go_simp <;> (try with_reducible rfl))
         try simp only [Act.put, zq4, zq5, zq6]
         refine wpQ_skip (by kernel_rfl) ?_
         try simp only [Act.put, zq4, zq5, zq6]
         refine wpQ_skip (by kernel_rfl) ?_
         try simp only [Act.put, zq4, zq5, zq6]
         refine wpQ_skip (by kernel_rfl) ?_
         try simp only [Act.put, zq4, zq5, zq6]
         refine wpQ_skip (by kernel_rfl) ?_
         try simp only [Act.put, zq4, zq5, zq6]
         refine wpQ_skip (by kernel_rfl) ?_
         try simp only [Act.put, zq4, zq5, zq6]
         refine wpQ_skip (by kernel_rfl) ?_
         try simp only [Act.put, zq4, zq5, zq6]
         refine wpQ_skip (by kernel_rfl) ?_
         try simp only [Act.put, zq4, zq5, zq6]
         refine wpQ_skip (by kernel_rfl) ?_
         try simp only [Act.put, zq4, zq5, zq6]
         refine wpQ_skip (by kernel_rfl) ?_
         try simp only [Act.put, zq4, zq5, zq6]
         refine wpQ_skip (by kernel_rfl) ?_
         try simp only [Act.put, zq4, zq5, zq6]
         refine wpQ_skip (by kernel_rfl) ?_
         try simp only [Act.put, zq4, zq5, zq6]
         refine wpQ_skip (by kernel_rfl) ?_
         try simp only [Act.put, zq4, zq5, zq6]
         refine wpQ_skip (by kernel_rfl) ?_
         try simp only [Act.put, zq4, zq5, zq6]
         refine wpQ_skip (by kernel_rfl) ?_
         try simp only [Act.put, zq4, zq5, zq6]
         refine wpQ_skip (by kernel_rfl) ?_
         try simp only [Act.put, zq4, zq5, zq6]
         refine wpQ_skip (by kernel_rfl) ?_
         try simp only [Act.put, zq4, zq5, zq6]
         refine wpQ_skip (by kernel_rfl) ?_
         try simp only [Act.put, zq4, zq5, zq6]
         refine wpQ_skip (by kernel_rfl) ?_
         try simp only [Act.put, zq4, zq5, zq6]
         refine wpQ_skip (by kernel_rfl) ?_
         try simp only [Act.put, zq4, zq5, zq6]
         refine wpQ_skip (by kernel_rfl) ?_
         try simp only [Act.put, zq4, zq5, zq6]
         refine wpQ_skip (by kernel_rfl) ?_
         try simp only [Act.put, zq4, zq5, zq6]
         refine wpQ_skip (by kernel_rfl) ?_
         try simp only [Act.put, zq4, zq5, zq6]
         refine wpQ_skip (by kernel_rfl) ?_
         try simp only [Act.put, zq4, zq5, zq6]
         refine wpQ_skip (by kernel_rfl) ?_
         try simp only [Act.put, zq4, zq5, zq6]
         refine wpQ_skip (by kernel_rfl) ?_
         try simp only [Act.put, zq4, zq5, zq6]
         refine wpQ_skip (by kernel_rfl) ?_
         try simp only [Act.put, zq4, zq5, zq6]
         refine wpQ_skip (by kernel_rfl) ?_
         try simp only [Act.put, zq4, zq5, zq6]
         refine wpQ_skip (by kernel_rfl) ?_
         try simp only [Act.put, zq4, zq5, zq6]
         refine wpQ_skip (by kernel_rfl) ?_
         try simp only [Act.put, zq4, zq5, zq6]
         refine wpQ_skip (by kernel_rfl) ?_
         try simp only [Act.put, zq4, zq5, zq6]
         refine wpQ_skip (by kernel_rfl) ?_
         try simp only [Act.put, zq4, zq5, zq6]
         refine wpQ_val (v := ?_) (by rfl) ?_ ?_
         rotate_left
         ·(intro w hSw; (try dsimp only at hSw); go_simp <;> (try with_reducible rfl))
         try simp only [Act.put, zq4, zq5, zq6]
         refine wpQ_val (v := ?_) (by rfl) ?_ ?_
         rotate_left
         ·(intro w hSw; (try dsimp only at hSw); go_simp <;> (try with_reducible rfl))
         try simp only [Act.put, zq4, zq5, zq6]
         refine wpQuiet_nil ?_
         (intro w9 hw9; have HO9 := Lib.hid hw9; clear hw9)
         have HP9 : Hid (Only (fun _ => False) W1 w9) := HUp2.out _ HO9.out
         go_wp2_with fail
         go_roundw
         case rel => exact ⟨HP9, k + 1, true, by first | rfl | go_num, by omega, by first | rfl | simp⟩
         case measure => simp [RowKit.intOf] <;> omega
        | false =>
         cases bb with
         | false =>
          go_wp2_with fail
          refine wp_region_Q (fun w' => Only (fun _ => False) W2 w') (by kernel_rfl) (by kernel_rfl) (by exact (Only.refl _ W2).drew) ?_
          refine wpQ_val (v := ?_) (by rfl) ?_ ?_
          rotate_left
          ·(intro w hSw; (try dsimp only at hSw); go_simp <;> (try with_reducible rfl))
          try simp only [Act.put, zq4, zq5, zq6]
          refine wpQ_val (v := ?_) (by rfl) ?_ ?_
          rotate_left
          ·(intro w hSw; (try dsimp only at hSw); go_simp <;> (try with_reducible rfl))
          try simp only [Act.put, zq4, zq5, zq6]
          refine wpQ_val (v := ?_) (by rfl) ?_ ?_
          rotate_left
          ·(intro w hSw; (try dsimp only at hSw); go_simp <;> (try with_reducible rfl))
          try simp only [Act.put, zq4, zq5, zq6]
          refine wpQ_val (v := ?_) (by rfl) ?_ ?_
          rotate_left
          ·(intro w hSw; (try dsimp only at hSw); obtain ⟨k0, k1, k2, k3, k4, k5, k6, k7⟩ := HBox.out w (HUp.out w (HUp2.out w hSw)); obtain ⟨e0, e1⟩ := HBe.out w hSw; have hrc := (HEc.out w (HUp.out w (HUp2.out w hSw))).1; have gc0 := hrc 0 _ rfl; rw [Nat.add_zero] at gc0; clear hrc; rw [HRn.out] at gc0; have hrt := (HEt.out w (HUp.out w (HUp2.out w hSw))).1; have gt0 := hrt 0 _ rfl; have gt1 := hrt 1 _ rfl; rw [Nat.add_zero] at gt0; clear hrt; have gc1 := (HEc.out w (HUp.out w (HUp2.out w hSw))).1 1 _ rfl; have gv := HIv.out w (HUp.out w (HUp2.out w hSw)); have hru := (HEu.out w (HUp.out w (HUp2.out w hSw))).1; have gu0 := hru 0 _ rfl; rw [Nat.add_zero] at gu0; rw [Nat.mul_one] at gu0; clear hru; go_simp <;> (try with_reducible rfl))
          try simp only [Act.put, zq4, zq5, zq6]
          refine wpQ_val (v := ?_) (by rfl) ?_ ?_
          rotate_left
          ·(intro w hSw; (try dsimp only at hSw); go_simp <;> (try with_reducible rfl))
          try simp only [Act.put, zq4, zq5, zq6]
          refine wpQ_val (v := ?_) (by rfl) ?_ ?_
          rotate_left
          ·(intro w hSw; (try dsimp only at hSw); obtain ⟨k0, k1, k2, k3, k4, k5, k6, k7⟩ := HBox.out w (HUp.out w (HUp2.out w hSw)); obtain ⟨e0, e1⟩ := HBe.out w hSw; have hrc := (HEc.out w (HUp.out w (HUp2.out w hSw))).1; have gc0 := hrc 0 _ rfl; rw [Nat.add_zero] at gc0; clear hrc; rw [HRn.out] at gc0; have hrt := (HEt.out w (HUp.out w (HUp2.out w hSw))).1; have gt0 := hrt 0 _ rfl; have gt1 := hrt 1 _ rfl; rw [Nat.add_zero] at gt0; clear hrt; have gc1 := (HEc.out w (HUp.out w (HUp2.out w hSw))).1 1 _ rfl; have gv := HIv.out w (HUp.out w (HUp2.out w hSw)); have hru := (HEu.out w (HUp.out w (HUp2.out w hSw))).1; have gu0 := hru 0 _ rfl; rw [Nat.add_zero] at gu0; rw [Nat.mul_one] at gu0; clear hru; go_simp <;> (try with_reducible rfl))
          try simp only [Act.put, zq4, zq5, zq6]
          refine wpQ_val (v := ?_) (by rfl) ?_ ?_
          rotate_left
          ·(intro w hSw; (try dsimp only at hSw); go_simp <;> (try with_reducible rfl))
          try simp only [Act.put, zq4, zq5, zq6]
          refine wpQ_val (v := ?_) (by rfl) ?_ ?_
          rotate_left
          ·(intro w hSw; (try dsimp only at hSw); go_simp <;> (try with_reducible rfl))
          try simp only [Act.put, zq4, zq5, zq6]
          refine wpQ_val (v := ?_) (by rfl) ?_ ?_
          rotate_left
          ·(intro w hSw; (try dsimp only at hSw); go_simp <;> (try with_reducible rfl))
          try simp only [Act.put, zq4, zq5, zq6]
          refine wpQ_val (v := ?_) (by rfl) ?_ ?_
          rotate_left
          ·(intro w hSw; (try dsimp only at hSw); obtain ⟨k0, k1, k2, k3, k4, k5, k6, k7⟩ := HBox.out w (HUp.out w (HUp2.out w hSw)); obtain ⟨e0, e1⟩ := HBe.out w hSw; have hrc := (HEc.out w (HUp.out w (HUp2.out w hSw))).1; have gc0 := hrc 0 _ rfl; rw [Nat.add_zero] at gc0; clear hrc; rw [HRn.out] at gc0; have hrt := (HEt.out w (HUp.out w (HUp2.out w hSw))).1; have gt0 := hrt 0 _ rfl; have gt1 := hrt 1 _ rfl; rw [Nat.add_zero] at gt0; clear hrt; have gc1 := (HEc.out w (HUp.out w (HUp2.out w hSw))).1 1 _ rfl; have gv := HIv.out w (HUp.out w (HUp2.out w hSw)); have hru := (HEu.out w (HUp.out w (HUp2.out w hSw))).1; have gu0 := hru 0 _ rfl; rw [Nat.add_zero] at gu0; rw [Nat.mul_one] at gu0; clear hru; go_simp <;> (try with_reducible rfl))
          try simp only [Act.put, zq4, zq5, zq6]
          refine wpQ_val (v := ?_) (by rfl) ?_ ?_
          rotate_left
          ·(intro w hSw; (try dsimp only at hSw); go_simp <;> (try with_reducible rfl))
          try simp only [Act.put, zq4, zq5, zq6]
          refine wpQ_val (v := ?_) (by rfl) ?_ ?_
          rotate_left
          ·(intro w hSw; (try dsimp only at hSw); go_simp <;> (try with_reducible rfl))
          try simp only [Act.put, zq4, zq5, zq6]
          refine wpQ_skip (by kernel_rfl) ?_
          try simp only [Act.put, zq4, zq5, zq6]
          refine wpQ_skip (by kernel_rfl) ?_
          try simp only [Act.put, zq4, zq5, zq6]
          refine wpQ_skip (by kernel_rfl) ?_
          try simp only [Act.put, zq4, zq5, zq6]
          refine wpQ_skip (by kernel_rfl) ?_
          try simp only [Act.put, zq4, zq5, zq6]
          refine wpQ_skip (by kernel_rfl) ?_
          try simp only [Act.put, zq4, zq5, zq6]
          refine wpQ_skip (by kernel_rfl) ?_
          try simp only [Act.put, zq4, zq5, zq6]
          refine wpQ_skip (by kernel_rfl) ?_
          try simp only [Act.put, zq4, zq5, zq6]
          refine wpQ_skip (by kernel_rfl) ?_
          try simp only [Act.put, zq4, zq5, zq6]
          refine wpQ_skip (by kernel_rfl) ?_
          try simp only [Act.put, zq4, zq5, zq6]
          refine wpQ_skip (by kernel_rfl) ?_
          try simp only [Act.put, zq4, zq5, zq6]
          refine wpQ_skip (by kernel_rfl) ?_
          try simp only [Act.put, zq4, zq5, zq6]
          refine wpQ_skip (by kernel_rfl) ?_
          try simp only [Act.put, zq4, zq5, zq6]
          refine wpQ_skip (by kernel_rfl) ?_
          try simp only [Act.put, zq4, zq5, zq6]
          refine wpQ_skip (by kernel_rfl) ?_
          try simp only [Act.put, zq4, zq5, zq6]
          refine wpQ_skip (by kernel_rfl) ?_
          try simp only [Act.put, zq4, zq5, zq6]
          refine wpQ_skip (by kernel_rfl) ?_
          try simp only [Act.put, zq4, zq5, zq6]
          refine wpQ_skip (by kernel_rfl) ?_
          try simp only [Act.put, zq4, zq5, zq6]
          refine wpQ_skip (by kernel_rfl) ?_
          try simp only [Act.put, zq4, zq5, zq6]
          refine wpQ_skip (by kernel_rfl) ?_
          try simp only [Act.put, zq4, zq5, zq6]
          refine wpQ_skip (by kernel_rfl) ?_
          try simp only [Act.put, zq4, zq5, zq6]
          refine wpQ_val (v := ?_) (by rfl) ?_ ?_
          rotate_left
          ·(intro w hSw; (try dsimp only at hSw); go_simp <;> (try with_reducible rfl))
          try simp only [Act.put, zq4, zq5, zq6]
          refine wpQ_val (v := ?_) (by rfl) ?_ ?_
          rotate_left
          ·(intro w hSw; (try dsimp only at hSw); go_simp <;> (try with_reducible rfl))
          try simp only [Act.put, zq4, zq5, zq6]
          refine wpQ_val (v := ?_) (by rfl) ?_ ?_
          rotate_left
          ·(intro w hSw; (try dsimp only at hSw); go_simp <;> (try with_reducible rfl))
          try simp only [Act.put, zq4, zq5, zq6]
          refine wpQuiet_nil ?_
          (intro w9 hw9; have HO9 := Lib.hid hw9; clear hw9)
          have HP9 : Hid (Only (fun _ => False) W1 w9) := HUp2.out _ HO9.out
          go_wp2_with fail
          go_roundw
          case rel => exact ⟨HP9, k + 1, false, by first | rfl | go_num, by omega, by first | rfl | simp⟩
          case measure => simp [RowKit.intOf] <;> omega
         | true =>
          go_wp2_with fail
          refine wp_region_Q (fun w' => Only (fun _ => False) W2 w') (by kernel_rfl) (by kernel_rfl) (by exact (Only.refl _ W2).drew) ?_
          refine wpQ_val (v := ?_) (by rfl) ?_ ?_
          rotate_left
          ·(intro w hSw; (try dsimp only at hSw); go_simp <;> (try with_reducible rfl))
          try simp only [Act.put, zq4, zq5, zq6]
          refine wpQ_val (v := ?_) (by rfl) ?_ ?_
          rotate_left
          ·(intro w hSw; (try dsimp only at hSw); go_simp <;> (try with_reducible rfl))
          try simp only [Act.put, zq4, zq5, zq6]
          refine wpQ_val (v := ?_) (by rfl) ?_ ?_
          rotate_left
          ·(intro w hSw; (try dsimp only at hSw); go_simp <;> (try with_reducible rfl))
          try simp only [Act.put, zq4, zq5, zq6]
          refine wpQ_val (v := ?_) (by rfl) ?_ ?_
          rotate_left
          ·(intro w hSw; (try dsimp only at hSw); obtain ⟨k0, k1, k2, k3, k4, k5, k6, k7⟩ := HBox.out w (HUp.out w (HUp2.out w hSw)); obtain ⟨e0, e1⟩ := HBe.out w hSw; have hrc := (HEc.out w (HUp.out w (HUp2.out w hSw))).1; have gc0 := hrc 0 _ rfl; rw [Nat.add_zero] at gc0; clear hrc; rw [HRn.out] at gc0; have hrt := (HEt.out w (HUp.out w (HUp2.out w hSw))).1; have gt0 := hrt 0 _ rfl; have gt1 := hrt 1 _ rfl; rw [Nat.add_zero] at gt0; clear hrt; have gc1 := (HEc.out w (HUp.out w (HUp2.out w hSw))).1 1 _ rfl; have gv := HIv.out w (HUp.out w (HUp2.out w hSw)); have hru := (HEu.out w (HUp.out w (HUp2.out w hSw))).1; have gu0 := hru 0 _ rfl; rw [Nat.add_zero] at gu0; rw [Nat.mul_one] at gu0; clear hru; go_simp <;> (try with_reducible rfl))
          try simp only [Act.put, zq4, zq5, zq6]
          refine wpQ_val (v := ?_) (by rfl) ?_ ?_
          rotate_left
          ·(intro w hSw; (try dsimp only at hSw); go_simp <;> (try with_reducible rfl))
          try simp only [Act.put, zq4, zq5, zq6]
          refine wpQ_val (v := ?_) (by rfl) ?_ ?_
          rotate_left
          ·(intro w hSw; (try dsimp only at hSw); obtain ⟨k0, k1, k2, k3, k4, k5, k6, k7⟩ := HBox.out w (HUp.out w (HUp2.out w hSw)); obtain ⟨e0, e1⟩ := HBe.out w hSw; have hrc := (HEc.out w (HUp.out w (HUp2.out w hSw))).1; have gc0 := hrc 0 _ rfl; rw [Nat.add_zero] at gc0; clear hrc; rw [HRn.out] at gc0; have hrt := (HEt.out w (HUp.out w (HUp2.out w hSw))).1; have gt0 := hrt 0 _ rfl; have gt1 := hrt 1 _ rfl; rw [Nat.add_zero] at gt0; clear hrt; have gc1 := (HEc.out w (HUp.out w (HUp2.out w hSw))).1 1 _ rfl; have gv := HIv.out w (HUp.out w (HUp2.out w hSw)); have hru := (HEu.out w (HUp.out w (HUp2.out w hSw))).1; have gu0 := hru 0 _ rfl; rw [Nat.add_zero] at gu0; rw [Nat.mul_one] at gu0; clear hru; go_simp <;> (try with_reducible rfl))
          try simp only [Act.put, zq4, zq5, zq6]
          refine wpQ_val (v := ?_) (by rfl) ?_ ?_
          rotate_left
          ·(intro w hSw; (try dsimp only at hSw); go_simp <;> (try with_reducible rfl))
          try simp only [Act.put, zq4, zq5, zq6]
          refine wpQ_val (v := ?_) (by rfl) ?_ ?_
          rotate_left
          ·(intro w hSw; (try dsimp only at hSw); go_simp <;> (try with_reducible rfl))
          try simp only [Act.put, zq4, zq5, zq6]
          refine wpQ_val (v := ?_) (by rfl) ?_ ?_
          rotate_left
          ·(intro w hSw; (try dsimp only at hSw); go_simp <;> (try with_reducible rfl))
          try simp only [Act.put, zq4, zq5, zq6]
          refine wpQ_val (v := ?_) (by rfl) ?_ ?_
          rotate_left
          ·(intro w hSw; (try dsimp only at hSw); obtain ⟨k0, k1, k2, k3, k4, k5, k6, k7⟩ := HBox.out w (HUp.out w (HUp2.out w hSw)); obtain ⟨e0, e1⟩ := HBe.out w hSw; have hrc := (HEc.out w (HUp.out w (HUp2.out w hSw))).1; have gc0 := hrc 0 _ rfl; rw [Nat.add_zero] at gc0; clear hrc; rw [HRn.out] at gc0; have hrt := (HEt.out w (HUp.out w (HUp2.out w hSw))).1; have gt0 := hrt 0 _ rfl; have gt1 := hrt 1 _ rfl; rw [Nat.add_zero] at gt0; clear hrt; have gc1 := (HEc.out w (HUp.out w (HUp2.out w hSw))).1 1 _ rfl; have gv := HIv.out w (HUp.out w (HUp2.out w hSw)); have hru := (HEu.out w (HUp.out w (HUp2.out w hSw))).1; have gu0 := hru 0 _ rfl; rw [Nat.add_zero] at gu0; rw [Nat.mul_one] at gu0; clear hru; go_simp <;> (try with_reducible rfl))
          try simp only [Act.put, zq4, zq5, zq6]
          refine wpQ_val (v := ?_) (by rfl) ?_ ?_
          rotate_left
          ·(intro w hSw; (try dsimp only at hSw); go_simp <;> (try with_reducible rfl))
          try simp only [Act.put, zq4, zq5, zq6]
          refine wpQ_val (v := ?_) (by rfl) ?_ ?_
          rotate_left
          ·(intro w hSw; (try dsimp only at hSw); go_simp <;> (try with_reducible rfl))
          try simp only [Act.put, zq4, zq5, zq6]
          refine wpQ_val (v := ?_) (by rfl) ?_ ?_
          rotate_left
          ·(intro w hSw; (try dsimp only at hSw); go_simp <;> (try with_reducible rfl))
          try simp only [Act.put, zq4, zq5, zq6]
          refine wpQ_val (v := ?_) (by rfl) ?_ ?_
          rotate_left
          ·(intro w hSw; (try dsimp only at hSw); obtain ⟨k0, k1, k2, k3, k4, k5, k6, k7⟩ := HBox.out w (HUp.out w (HUp2.out w hSw)); obtain ⟨e0, e1⟩ := HBe.out w hSw; have hrc := (HEc.out w (HUp.out w (HUp2.out w hSw))).1; have gc0 := hrc 0 _ rfl; rw [Nat.add_zero] at gc0; clear hrc; rw [HRn.out] at gc0; have hrt := (HEt.out w (HUp.out w (HUp2.out w hSw))).1; have gt0 := hrt 0 _ rfl; have gt1 := hrt 1 _ rfl; rw [Nat.add_zero] at gt0; clear hrt; have gc1 := (HEc.out w (HUp.out w (HUp2.out w hSw))).1 1 _ rfl; have gv := HIv.out w (HUp.out w (HUp2.out w hSw)); have hru := (HEu.out w (HUp.out w (HUp2.out w hSw))).1; have gu0 := hru 0 _ rfl; rw [Nat.add_zero] at gu0; rw [Nat.mul_one] at gu0; clear hru; go_simp <;> (try with_reducible rfl))
          try simp only [Act.put, zq4, zq5, zq6]
          refine wpQ_val (v := ?_) (by rfl) ?_ ?_
          rotate_left
          ·(intro w hSw; (try dsimp only at hSw); go_simp <;> (try with_reducible rfl))
          try simp only [Act.put, zq4, zq5, zq6]
          refine wpQ_val (v := ?_) (by rfl) ?_ ?_
          rotate_left
          ·(intro w hSw; (try dsimp only at hSw); obtain ⟨k0, k1, k2, k3, k4, k5, k6, k7⟩ := HBox.out w (HUp.out w (HUp2.out w hSw)); obtain ⟨e0, e1⟩ := HBe.out w hSw; have hrc := (HEc.out w (HUp.out w (HUp2.out w hSw))).1; have gc0 := hrc 0 _ rfl; rw [Nat.add_zero] at gc0; clear hrc; rw [HRn.out] at gc0; have hrt := (HEt.out w (HUp.out w (HUp2.out w hSw))).1; have gt0 := hrt 0 _ rfl; have gt1 := hrt 1 _ rfl; rw [Nat.add_zero] at gt0; clear hrt; have gc1 := (HEc.out w (HUp.out w (HUp2.out w hSw))).1 1 _ rfl; have gv := HIv.out w (HUp.out w (HUp2.out w hSw)); have hru := (HEu.out w (HUp.out w (HUp2.out w hSw))).1; have gu0 := hru 0 _ rfl; rw [Nat.add_zero] at gu0; rw [Nat.mul_one] at gu0; clear hru; go_simp <;> (try with_reducible rfl))
          try simp only [Act.put, zq4, zq5, zq6]
          refine wpQ_val (v := ?_) (by rfl) ?_ ?_
          rotate_left
          ·(intro w hSw; (try dsimp only at hSw); go_simp <;> (try with_reducible rfl))
          try simp only [Act.put, zq4, zq5, zq6]
          refine wpQ_val (v := ?_) (by rfl) ?_ ?_
          rotate_left
          ·(intro w hSw; (try dsimp only at hSw); go_simp <;> (try with_reducible rfl))
          try simp only [Act.put, zq4, zq5, zq6]
          refine wpQ_val (v := ?_) (by rfl) ?_ ?_
          rotate_left
          ·(intro w hSw; (try dsimp only at hSw); go_simp <;> (try with_reducible rfl))
          try simp only [Act.put, zq4, zq5, zq6]
          refine wpQ_val (v := ?_) (by rfl) ?_ ?_
          rotate_left
          ·(intro w hSw; (try dsimp only at hSw); obtain ⟨k0, k1, k2, k3, k4, k5, k6, k7⟩ := HBox.out w (HUp.out w (HUp2.out w hSw)); obtain ⟨e0, e1⟩ := HBe.out w hSw; have hrc := (HEc.out w (HUp.out w (HUp2.out w hSw))).1; have gc0 := hrc 0 _ rfl; rw [Nat.add_zero] at gc0; clear hrc; rw [HRn.out] at gc0; have hrt := (HEt.out w (HUp.out w (HUp2.out w hSw))).1; have gt0 := hrt 0 _ rfl; have gt1 := hrt 1 _ rfl; rw [Nat.add_zero] at gt0; clear hrt; have gc1 := (HEc.out w (HUp.out w (HUp2.out w hSw))).1 1 _ rfl; have gv := HIv.out w (HUp.out w (HUp2.out w hSw)); have hru := (HEu.out w (HUp.out w (HUp2.out w hSw))).1; have gu0 := hru 0 _ rfl; rw [Nat.add_zero] at gu0; rw [Nat.mul_one] at gu0; clear hru; go_simp <;> (try with_reducible rfl))
          try simp only [Act.put, zq4, zq5, zq6]
          refine wpQ_val (v := ?_) (by rfl) ?_ ?_
          rotate_left
          ·(intro w hSw; (try dsimp only at hSw); go_simp <;> (try with_reducible rfl))
          try simp only [Act.put, zq4, zq5, zq6]
          refine wpQ_val (v := ?_) (by rfl) ?_ ?_
          rotate_left
          ·(intro w hSw; (try dsimp only at hSw); go_simp <;> (try with_reducible rfl))
          try simp only [Act.put, zq4, zq5, zq6]
          refine wpQ_val (v := ?_) (by rfl) ?_ ?_
          rotate_left
          ·(intro w hSw; (try dsimp only at hSw); obtain ⟨k0, k1, k2, k3, k4, k5, k6, k7⟩ := HBox.out w (HUp.out w (HUp2.out w hSw)); obtain ⟨e0, e1⟩ := HBe.out w hSw; have hrc := (HEc.out w (HUp.out w (HUp2.out w hSw))).1; have gc0 := hrc 0 _ rfl; rw [Nat.add_zero] at gc0; clear hrc; rw [HRn.out] at gc0; have hrt := (HEt.out w (HUp.out w (HUp2.out w hSw))).1; have gt0 := hrt 0 _ rfl; have gt1 := hrt 1 _ rfl; rw [Nat.add_zero] at gt0; clear hrt; have gc1 := (HEc.out w (HUp.out w (HUp2.out w hSw))).1 1 _ rfl; have gv := HIv.out w (HUp.out w (HUp2.out w hSw)); have hru := (HEu.out w (HUp.out w (HUp2.out w hSw))).1; have gu0 := hru 0 _ rfl; rw [Nat.add_zero] at gu0; rw [Nat.mul_one] at gu0; clear hru; go_simp <;> (try with_reducible rfl))
          try simp only [Act.put, zq4, zq5, zq6]
          refine wpQ_val (v := ?_) (by rfl) ?_ ?_
          rotate_left
          ·(intro w hSw; (try dsimp only at hSw); go_simp <;> (try with_reducible rfl))
          try simp only [Act.put, zq4, zq5, zq6]
          refine wpQ_val (v := ?_) (by rfl) ?_ ?_
          rotate_left
          ·(intro w hSw; (try dsimp only at hSw); obtain ⟨k0, k1, k2, k3, k4, k5, k6, k7⟩ := HBox.out w (HUp.out w (HUp2.out w hSw)); obtain ⟨e0, e1⟩ := HBe.out w hSw; have hrc := (HEc.out w (HUp.out w (HUp2.out w hSw))).1; have gc0 := hrc 0 _ rfl; rw [Nat.add_zero] at gc0; clear hrc; rw [HRn.out] at gc0; have hrt := (HEt.out w (HUp.out w (HUp2.out w hSw))).1; have gt0 := hrt 0 _ rfl; have gt1 := hrt 1 _ rfl; rw [Nat.add_zero] at gt0; clear hrt; have gc1 := (HEc.out w (HUp.out w (HUp2.out w hSw))).1 1 _ rfl; have gv := HIv.out w (HUp.out w (HUp2.out w hSw)); have hru := (HEu.out w (HUp.out w (HUp2.out w hSw))).1; have gu0 := hru 0 _ rfl; rw [Nat.add_zero] at gu0; rw [Nat.mul_one] at gu0; clear hru; go_simp <;> (try with_reducible rfl))
          try simp only [Act.put, zq4, zq5, zq6]
          refine wpQ_val (v := ?_) (by rfl) ?_ ?_
          rotate_left
          ·(intro w hSw; (try dsimp only at hSw); go_simp <;> (try with_reducible rfl))
          try simp only [Act.put, zq4, zq5, zq6]
          refine wpQ_val (v := ?_) (by rfl) ?_ ?_
          rotate_left
          ·(intro w hSw; (try dsimp only at hSw); obtain ⟨k0, k1, k2, k3, k4, k5, k6, k7⟩ := HBox.out w (HUp.out w (HUp2.out w hSw)); obtain ⟨e0, e1⟩ := HBe.out w hSw; have hrc := (HEc.out w (HUp.out w (HUp2.out w hSw))).1; have gc0 := hrc 0 _ rfl; rw [Nat.add_zero] at gc0; clear hrc; rw [HRn.out] at gc0; have hrt := (HEt.out w (HUp.out w (HUp2.out w hSw))).1; have gt0 := hrt 0 _ rfl; have gt1 := hrt 1 _ rfl; rw [Nat.add_zero] at gt0; clear hrt; have gc1 := (HEc.out w (HUp.out w (HUp2.out w hSw))).1 1 _ rfl; have gv := HIv.out w (HUp.out w (HUp2.out w hSw)); have hru := (HEu.out w (HUp.out w (HUp2.out w hSw))).1; have gu0 := hru 0 _ rfl; rw [Nat.add_zero] at gu0; rw [Nat.mul_one] at gu0; clear hru; go_simp <;> (try with_reducible rfl))
          try simp only [Act.put, zq4, zq5, zq6]
          refine wpQ_val (v := ?_) (by rfl) ?_ ?_
          rotate_left
          ·(intro w hSw; (try dsimp only at hSw); go_simp <;> (try with_reducible rfl))
          try simp only [Act.put, zq4, zq5, zq6]
          refine wpQ_val (v := ?_) (by rfl) ?_ ?_
          rotate_left
          ·(intro w hSw; (try dsimp only at hSw); go_simp <;> (try with_reducible rfl))
          try simp only [Act.put, zq4, zq5, zq6]
          refine wpQ_val (v := ?_) (by rfl) ?_ ?_
          rotate_left
          ·(intro w hSw; (try dsimp only at hSw); go_simp <;> (try with_reducible rfl))
          try simp only [Act.put, zq4, zq5, zq6]
          refine wpQ_val (v := ?_) (by rfl) ?_ ?_
          rotate_left
          ·(intro w hSw; (try dsimp only at hSw); obtain ⟨k0, k1, k2, k3, k4, k5, k6, k7⟩ := HBox.out w (HUp.out w (HUp2.out w hSw)); obtain ⟨e0, e1⟩ := HBe.out w hSw; have hrc := (HEc.out w (HUp.out w (HUp2.out w hSw))).1; have gc0 := hrc 0 _ rfl; rw [Nat.add_zero] at gc0; clear hrc; rw [HRn.out] at gc0; have hrt := (HEt.out w (HUp.out w (HUp2.out w hSw))).1; have gt0 := hrt 0 _ rfl; have gt1 := hrt 1 _ rfl; rw [Nat.add_zero] at gt0; clear hrt; have gc1 := (HEc.out w (HUp.out w (HUp2.out w hSw))).1 1 _ rfl; have gv := HIv.out w (HUp.out w (HUp2.out w hSw)); have hru := (HEu.out w (HUp.out w (HUp2.out w hSw))).1; have gu0 := hru 0 _ rfl; rw [Nat.add_zero] at gu0; rw [Nat.mul_one] at gu0; clear hru; go_simp <;> (try with_reducible rfl))
          try simp only [Act.put, zq4, zq5, zq6]
          refine wpQ_val (v := ?_) (by rfl) ?_ ?_
          rotate_left
          ·(intro w hSw; (try dsimp only at hSw); go_simp <;> (try with_reducible rfl))
          try simp only [Act.put, zq4, zq5, zq6]
          refine wpQ_val (v := ?_) (by rfl) ?_ ?_
          rotate_left
          ·(intro w hSw; (try dsimp only at hSw); go_simp <;> (try with_reducible rfl))
          try simp only [Act.put, zq4, zq5, zq6]
          refine wpQ_val (v := ?_) (by rfl) ?_ ?_
          rotate_left
          ·(intro w hSw; (try dsimp only at hSw); go_simp <;> (try with_reducible rfl))
          try simp only [Act.put, zq4, zq5, zq6]
          refine wpQ_val (v := ?_) (by rfl) ?_ ?_
          rotate_left
          ·(intro w hSw; (try dsimp only at hSw); go_simp <;> (try with_reducible rfl))
          try simp only [Act.put, zq4, zq5, zq6]
          refine wpQuiet_nil ?_
          (intro w9 hw9; have HO9 := Lib.hid hw9; clear hw9)
          have HP9 : Hid (Only (fun _ => False) W1 w9) := HUp2.out _ HO9.out
          go_wp2_with fail
          go_roundw
          case rel => exact ⟨HP9, k + 1, b2, by first | rfl | go_num, by omega, by first | rfl | simp⟩
          case measure => simp [RowKit.intOf] <;> omega
       ·obtain rfl : ny2 = k := by omega
        cases f with
        | false =>
         go_wp2_with fail
         go_ret
         exact BoolIf.mk false rfl (fun h => by cases h) (HOB.out.same (HUp.out wrk HPk.out))
        | true =>
         go_wp2_with fail
         go_roundw
         case rel => exact ⟨HPk, i + 1, by first | rfl | go_num, by omega⟩
         case measure => simp [RowKit.intOf] <;> omega
     ·obtain rfl : n_s_sets = i := by omega
      go_wp2_with fail
      go_ret
      exact BoolIf.mk true rfl (fun _ => HThere.out) (HOB.out.same (HUp.out wri HPi.out))
  exact AllReadyG.nil
end
section
variable {w w' : World} {B : Nat}
def AnyOn (g : GD) : Prop := ∃ n, n < (rulesOf g.x g.q (g.x.closure g.q.names)).length ∧ onB g.off n = true
set_option maxRecDepth 100000 in
set_option maxHeartbeats 4000000 in
theorem Active_any {csg : List Value} {g : GD} (hg : GC B w csg g) (hgr : GR g) (pn : Nat) (hpn : pn < g.x.packs.length) (i : Nat) (hi : i < (g.x.pack pn).deps.length) :
  Calls Tryz.prog 65 #[.agg csg.toArray, .int .i64 (pn : Int), .int .i64 (i : Int)] w fun e w' => BoolIf (AnyOn g) w w' e := by
 have HH_g := Lib.hid hg
 obtain ⟨u1, u2, u3, u4, u5, rfl, r1, r2, r3, r4, r5⟩ := hg
 obtain ⟨a_g_packs, c_g_packs, rfl, g_g_packs, h_g_packs⟩ := r1.shape
 obtain ⟨n_g_packs, e1⟩ : ∃ n, g.x.packs.length = n := ⟨_, rfl⟩
 have N_g_packs := Lib.hid e1
 obtain ⟨a_g_prefs, c_g_prefs, rfl, g_g_prefs, h_g_prefs⟩ := r2.shape
 obtain ⟨n_g_prefs, e2⟩ : ∃ n, g.x.prefs.length = n := ⟨_, rfl⟩
 have N_g_prefs := Lib.hid e2
 obtain ⟨a_g_roots, c_g_roots, rfl, g_g_roots, h_g_roots⟩ := r3.shape
 obtain ⟨n_g_roots, e3⟩ : ∃ n, g.q.roots.length = n := ⟨_, rfl⟩
 have N_g_roots := Lib.hid e3
 obtain ⟨a_g_c, c_g_c, rfl, g_g_c, h_g_c⟩ := r4.shape
 obtain ⟨n_g_c, e4⟩ : ∃ n, g.c.length = n := ⟨_, rfl⟩
 have N_g_c := Lib.hid e4
 obtain ⟨a_g_off, c_g_off, rfl, g_g_off, h_g_off⟩ := r5.shape
 obtain ⟨n_g_off, e5⟩ : ∃ n, g.off.length = n := ⟨_, rfl⟩
 have N_g_off := Lib.hid e5
 rw [e1, e2, e3, e4, e5] at HH_g
 rw [e1] at r1 g_g_packs
 have RR_g_packs := Lib.hid r1
 rw [e2] at r2 g_g_prefs
 have RR_g_prefs := Lib.hid r2
 rw [e3] at r3 g_g_roots
 have RR_g_roots := Lib.hid r3
 rw [e4] at r4 g_g_c
 have RR_g_c := Lib.hid r4
 rw [e5] at r5 g_g_off
 have RR_g_off := Lib.hid r5
 rw [e1, e2, e3, e4, e5]
 clear e1 e2 e3 e4 e5 r1 r2 r3 r4 r5
 obtain ⟨W0, hW0⟩ : ∃ W0, W0 = (w.alloc (.cells #[.slice a_g_packs n_g_packs c_g_packs, .slice a_g_prefs n_g_prefs c_g_prefs, .slice a_g_roots n_g_roots c_g_roots, .slice a_g_c n_g_c c_g_c, .slice a_g_off n_g_off c_g_off] 62)) := ⟨_, rfl⟩
 have HOB : Hid (Only (fun _ => False) w W0) := by rw [hW0]; exact (Only.refl _ _).alloc _
 have HSz : Hid (W0.heap.size = w.heap.size + 1) := by rw [hW0]; simp [Hid]
 have HBox : Hid (∀ W, Only (fun _ => False) W0 W → W.cell? ⟨w.heap.size, 0, none⟩ = some (.slice a_g_packs n_g_packs c_g_packs) ∧ W.cell? ⟨w.heap.size, 1, none⟩ = some (.slice a_g_prefs n_g_prefs c_g_prefs) ∧ W.cell? ⟨w.heap.size, 2, none⟩ = some (.slice a_g_roots n_g_roots c_g_roots) ∧ W.cell? ⟨w.heap.size, 3, none⟩ = some (.slice a_g_c n_g_c c_g_c) ∧ W.cell? ⟨w.heap.size, 4, none⟩ = some (.slice a_g_off n_g_off c_g_off)) := fun W ho => by
  have b0 : W0.heap[w.heap.size]? = some (.cells #[.slice a_g_packs n_g_packs c_g_packs, .slice a_g_prefs n_g_prefs c_g_prefs, .slice a_g_roots n_g_roots c_g_roots, .slice a_g_c n_g_c c_g_c, .slice a_g_off n_g_off c_g_off] 62) := by rw [hW0]; exact alloc_at rfl
  have d0 := only_block b0 ho (fun f => f)
  exact ⟨by rw [cell_block d0]; rfl, by rw [cell_block d0]; rfl, by rw [cell_block d0]; rfl, by rw [cell_block d0]; rfl, by rw [cell_block d0]; rfl⟩
 have HK_g : Hid (∀ W, Only (fun _ => False) W0 W → GC B W [.slice a_g_packs n_g_packs c_g_packs, .slice a_g_prefs n_g_prefs c_g_prefs, .slice a_g_roots n_g_roots c_g_roots, .slice a_g_c n_g_c c_g_c, .slice a_g_off n_g_off c_g_off] g) := fun W ho => GC.keep HH_g.out (Kp.of0 (HOB.out.same ho) : Kp B w W)
 have HR_g_packs : Hid (∀ W, Only (fun _ => False) W0 W → RowT 8 PackC B W (.slice a_g_packs n_g_packs c_g_packs) g.x.packs) := fun W ho => RR_g_packs.out.keep PackC.keep (Kp.of0 (HOB.out.same ho))
 clear RR_g_packs
 have HR_g_prefs : Hid (∀ W, Only (fun _ => False) W0 W → RowT 3 PrefC B W (.slice a_g_prefs n_g_prefs c_g_prefs) g.x.prefs) := fun W ho => RR_g_prefs.out.keep PrefC.keep (Kp.of0 (HOB.out.same ho))
 clear RR_g_prefs
 have HR_g_roots : Hid (∀ W, Only (fun _ => False) W0 W → RowT 4 RootC B W (.slice a_g_roots n_g_roots c_g_roots) g.q.roots) := fun W ho => RR_g_roots.out.keep RootC.keep (Kp.of0 (HOB.out.same ho))
 clear RR_g_roots
 have HR_g_c : Hid (∀ W, Only (fun _ => False) W0 W → RowT 2 CC B W (.slice a_g_c n_g_c c_g_c) g.c) := fun W ho => RR_g_c.out.keep CC.keep (Kp.of0 (HOB.out.same ho))
 clear RR_g_c
 have HR_g_off : Hid (∀ W, Only (fun _ => False) W0 W → RowT 1 BoolC B W (.slice a_g_off n_g_off c_g_off) g.off) := fun W ho => RR_g_off.out.keep BoolC.keep (Kp.of0 (HOB.out.same ho))
 clear RR_g_off
 clear HH_g
 have HOk := Lib.hid hgr
 have HRu : Hid (∀ W, Only (fun _ => False) W0 W → Calls Tryz.prog 90 #[.agg #[.slice a_g_packs n_g_packs c_g_packs, .slice a_g_prefs n_g_prefs c_g_prefs, .slice a_g_roots n_g_roots c_g_roots, .slice a_g_c n_g_c c_g_c, .slice a_g_off n_g_off c_g_off], .int .u8 2, .int .i64 (pn : Int), .int .i64 (i : Int)] W fun e w' => RuleEnd g W w' e) := fun W hW => rule_any (HK_g.out W hW) hgr 2 ⟨by decide, by decide⟩ pn ⟨by omega, by have := hgr.ru.packs; omega⟩ i ⟨by omega, by have := hgr.ru.deps (g.x.pack pn) (RecD.pack_mem hpn); omega⟩
 obtain ⟨q, hq⟩ : ∃ q, g.x.pack pn = q := ⟨_, rfl⟩
 rw [N_g_packs.out] at hpn
 obtain ⟨yy, hxy⟩ : ∃ y, g.x.packs[pn]? = some y := ⟨_, List.getElem?_eq_getElem (by rw [N_g_packs.out]; omega)⟩
 obtain ⟨bky, offy, ay1, ny1, cy1, ay2, ny2, cy2, ay3, ny3, cy3, ay4, ny4, cy4, ay5, ny5, cy5, ay6, ny6, cy6, hey, N0y1, N0y2, N0y3, N0y4, N0y5, N0y6, oky1, iny1, HE0y⟩ := PackC_at (HR_g_packs.out W0 (Only.refl _ _)) hxy
 first
  | subst hey
  | (simp only [Option.some.injEq, Addr.mk.injEq, and_true] at hey; obtain ⟨rfl, rfl⟩ := hey)
 have Ny1 := Lib.hid N0y1
 have Ny2 := Lib.hid N0y2
 have Ny3 := Lib.hid N0y3
 have Ny4 := Lib.hid N0y4
 have Ny5 := Lib.hid N0y5
 have Ny6 := Lib.hid N0y6
 have HEy := Lib.hid HE0y
 have HXy := Lib.hid hxy
 clear HE0y hxy N0y1 N0y2 N0y3 N0y4 N0y5 N0y6
 have HRy1 : Hid (∀ W, Only (fun _ => False) W0 W → RowT 2 RelC B W (.slice ay1 ny1 cy1) yy.rels) := fun W ho => (HEy.out W ho).2.1
 have HRy2 : Hid (∀ W, Only (fun _ => False) W0 W → RowT 2 VarC B W (.slice ay2 ny2 cy2) yy.vars) := fun W ho => (HEy.out W ho).2.2.1
 have HRy3 : Hid (∀ W, Only (fun _ => False) W0 W → RowT 1 StrC B W (.slice ay3 ny3 cy3) yy.provides) := fun W ho => (HEy.out W ho).2.2.2.1
 have HRy4 : Hid (∀ W, Only (fun _ => False) W0 W → RowT 7 DepC B W (.slice ay4 ny4 cy4) yy.deps) := fun W ho => (HEy.out W ho).2.2.2.2.1
 have HRy5 : Hid (∀ W, Only (fun _ => False) W0 W → RowT 7 ConC B W (.slice ay5 ny5 cy5) yy.cons) := fun W ho => (HEy.out W ho).2.2.2.2.2.1
 have HRy6 : Hid (∀ W, Only (fun _ => False) W0 W → RowT 1 StrC B W (.slice ay6 ny6 cy6) yy.files) := fun W ho => (HEy.out W ho).2.2.2.2.2.2.1
 have HCy : Hid (∀ W, Only (fun _ => False) W0 W → PackC B W [.string yy.name, .int .i64 yy.line, .slice ay1 ny1 cy1, .slice ay2 ny2 cy2, .slice ay3 ny3 cy3, .slice ay4 ny4 cy4, .slice ay5 ny5 cy5, .slice ay6 ny6 cy6] yy) := fun W ho => (HEy.out W ho).2.2.2.2.2.2.2
 have e2 : g.x.pack pn = yy := by unfold RecD.pack; rw [List.getD_eq_getElem?_getD, HXy.out]; rfl
 rw [e2, Ny4.out] at hi
 obtain ⟨yz, hxz⟩ : ∃ y, yy.deps[i]? = some y := ⟨_, List.getElem?_eq_getElem (by rw [Ny4.out]; omega)⟩
 obtain ⟨bkz, offz, az1, nz1, cz1, az2, nz2, cz2, az3, nz3, cz3, az4, nz4, cz4, hez, N0z1, N0z2, N0z3, N0z4, okz1, okz2, inz1, HE0z⟩ := DepC_at (HRy4.out W0 (Only.refl _ _)) hxz
 first
  | subst hez
  | (simp only [Option.some.injEq, Addr.mk.injEq, and_true] at hez; obtain ⟨rfl, rfl⟩ := hez)
 have Nz1 := Lib.hid N0z1
 have Nz2 := Lib.hid N0z2
 have Nz3 := Lib.hid N0z3
 have Nz4 := Lib.hid N0z4
 have HEz := Lib.hid HE0z
 have HXz := Lib.hid hxz
 clear HE0z hxz N0z1 N0z2 N0z3 N0z4
 have HRz1 : Hid (∀ W, Only (fun _ => False) W0 W → RowT 2 SpanC B W (.slice az1 nz1 cz1) yz.on.spans) := fun W ho => (HEz.out W ho).2.1
 have HRz2 : Hid (∀ W, Only (fun _ => False) W0 W → RowT 2 SetC B W (.slice az2 nz2 cz2) yz.on.sets) := fun W ho => (HEz.out W ho).2.2.1
 have HRz3 : Hid (∀ W, Only (fun _ => False) W0 W → RowT 2 SpanC B W (.slice az3 nz3 cz3) yz.cond.spans) := fun W ho => (HEz.out W ho).2.2.2.1
 have HRz4 : Hid (∀ W, Only (fun _ => False) W0 W → RowT 2 SetC B W (.slice az4 nz4 cz4) yz.cond.sets) := fun W ho => (HEz.out W ho).2.2.2.2.1
 have HCz : Hid (∀ W, Only (fun _ => False) W0 W → DepC B W [.string yz.on.name, .slice az1 nz1 cz1, .slice az2 nz2 cz2, .string yz.cond.name, .slice az3 nz3 cz3, .slice az4 nz4 cz4, .int .i64 yz.line] yz) := fun W ho => (HEz.out W ho).2.2.2.2.2
 have HMe : Hid (∀ W, Only (fun _ => False) W0 W → Calls Tryz.prog 67 #[.agg #[.slice (some ⟨bky, offy, none⟩) n_g_packs c_g_packs, .slice a_g_prefs n_g_prefs c_g_prefs, .slice a_g_roots n_g_roots c_g_roots, .slice a_g_c n_g_c c_g_c, .slice a_g_off n_g_off c_g_off], .int .i64 (pn : Int), .agg #[.string yz.cond.name, .slice az3 nz3 cz3, .slice az4 nz4 cz4]] W fun e w' => BoolIf (thereB g.c (pn : Int) = true) W w' e) := fun W hW => Meets_any (css := [.string yz.cond.name, .slice az3 nz3 cz3, .slice az4 nz4 cz4]) (s := yz.cond) (HK_g.out W hW) ⟨_, _, rfl, okz2, HRz3.out W hW, HRz4.out W hW⟩ hgr.ok pn ⟨by omega, by have := hgr.ru.packs; rw [N_g_packs.out] at this; omega⟩
 have hpb := hgr.ru.packs
 have hdb := hgr.ru.deps yy (List.mem_of_getElem? HXy.out)
 rw [N_g_packs.out] at hpb
 rw [Ny4.out] at hdb
 have hfew := hgr.few
 clear hq q e2 hgr
 obtain ⟨k0, k1, k2, k3, k4⟩ := HBox.out W0 (Only.refl _ _)
 rw [hW0] at k0 k1 k2 k3 k4
 go_enter Tryz.func65, Tryz.ntmps65
 go_wp2_with fail
 rw [← hW0] at k0 k1 k2 k3 k4 ⊢
 clear hW0
 refine (HRu.out W0 (Only.refl _ _)).mono ?_
 rintro e w1 ⟨r, rfl, hr1, hr2, O1⟩
 have HO1 := Lib.hid O1
 clear O1 k0 k1 k2 k3 k4 HRu
 by_cases hr0 : r < 0
 ·have hge : decide (0 ≤ r) = false := decide_eq_false (by omega)
  go_wp2_with fail
  refine wp_region_G (n := 24) (E := fun _ => false) (S := fun W => Only (fun _ => False) W0 W) (by kernel_rfl) rfl (by exact (HO1.out).drew) (fun hHeld => ?_)
  refine tqW (i := 0) (v := ?_) rfl (.inr (by assumption)) ?_ ?_
  rotate_left
  ·(intro w; go_simp <;> (try with_reducible rfl))
  try simp only [Act.put, zq1, zq3, zq4, zq5, zq6]
  refine tqW (i := 1) (v := ?_) rfl (.inr (by assumption)) ?_ ?_
  rotate_left
  ·(intro w; go_simp <;> (try with_reducible rfl))
  try simp only [Act.put, zq1, zq2, zq3, zq4, zq5, zq6]
  refine tqW (i := 2) (v := ?_) rfl (.inr (by assumption)) ?_ ?_
  rotate_left
  ·(intro w; go_simp <;> (try with_reducible rfl))
  try simp only [Act.put, zq1, zq2, zq3, zq4, zq5, zq6]
  refine wpAnyG_skip (i := 3) rfl (by kernel_rfl) (by kernel_rfl) (by kernel_rfl) rfl (fun _ _ _ h => h) (Or.inr (by assumption)) (by rfl) ?_
  try simp only [Act.put, zq1, zq2, zq3, zq4, zq5, zq6]
  refine wpAnyG_skip (i := 4) rfl (by kernel_rfl) (by kernel_rfl) (by kernel_rfl) rfl (fun _ _ _ h => h) (Or.inr (by assumption)) (by rfl) ?_
  try simp only [Act.put, zq1, zq2, zq3, zq4, zq5, zq6]
  refine wpAnyG_skip (i := 5) rfl (by kernel_rfl) (by kernel_rfl) (by kernel_rfl) rfl (fun _ _ _ h => h) (Or.inr (by assumption)) (by rfl) ?_
  try simp only [Act.put, zq1, zq2, zq3, zq4, zq5, zq6]
  refine tqW (i := 6) (v := ?_) rfl (.inr (by assumption)) ?_ ?_
  rotate_left
  ·(intro w; go_simp <;> (try with_reducible rfl))
  try simp only [Act.put, zq1, zq2, zq3, zq4, zq5, zq6]
  refine tqW (i := 7) (v := ?_) rfl (.inr (by assumption)) ?_ ?_
  rotate_left
  ·(intro w; go_simp <;> (try with_reducible rfl))
  try simp only [Act.put, zq1, zq2, zq3, zq4, zq5, zq6]
  refine wpAnyG_skip (i := 8) rfl (by kernel_rfl) (by kernel_rfl) (by kernel_rfl) rfl (fun _ _ _ h => h) (Or.inr (by assumption)) (by rfl) ?_
  try simp only [Act.put, zq1, zq2, zq3, zq4, zq5, zq6]
  refine wpAnyG_skip (i := 9) rfl (by kernel_rfl) (by kernel_rfl) (by kernel_rfl) rfl (fun _ _ _ h => h) (Or.inr (by assumption)) (by rfl) ?_
  try simp only [Act.put, zq1, zq2, zq3, zq4, zq5, zq6]
  refine wpAnyG_skip (i := 10) rfl (by kernel_rfl) (by kernel_rfl) (by kernel_rfl) rfl (fun _ _ _ h => h) (Or.inr (by assumption)) (by rfl) ?_
  try simp only [Act.put, zq1, zq2, zq3, zq4, zq5, zq6]
  refine wpAnyG_skip (i := 11) rfl (by kernel_rfl) (by kernel_rfl) (by kernel_rfl) rfl (fun _ _ _ h => h) (Or.inr (by assumption)) (by rfl) ?_
  try simp only [Act.put, zq1, zq2, zq3, zq4, zq5, zq6]
  refine wpAnyG_skip (i := 12) rfl (by kernel_rfl) (by kernel_rfl) (by kernel_rfl) rfl (fun _ _ _ h => h) (Or.inr (by assumption)) (by rfl) ?_
  try simp only [Act.put, zq1, zq2, zq3, zq4, zq5, zq6]
  refine wpAnyG_skip (i := 13) rfl (by kernel_rfl) (by kernel_rfl) (by kernel_rfl) rfl (fun _ _ _ h => h) (Or.inr (by assumption)) (by rfl) ?_
  try simp only [Act.put, zq1, zq2, zq3, zq4, zq5, zq6]
  refine wpAnyG_skip (i := 14) rfl (by kernel_rfl) (by kernel_rfl) (by kernel_rfl) rfl (fun _ _ _ h => h) (Or.inr (by assumption)) (by rfl) ?_
  try simp only [Act.put, zq1, zq2, zq3, zq4, zq5, zq6]
  refine wpAnyG_skip (i := 15) rfl (by kernel_rfl) (by kernel_rfl) (by kernel_rfl) rfl (fun _ _ _ h => h) (Or.inr (by assumption)) (by rfl) ?_
  try simp only [Act.put, zq1, zq2, zq3, zq4, zq5, zq6]
  refine wpAnyG_skip (i := 16) rfl (by kernel_rfl) (by kernel_rfl) (by kernel_rfl) rfl (fun _ _ _ h => h) (Or.inr (by assumption)) (by rfl) ?_
  try simp only [Act.put, zq1, zq2, zq3, zq4, zq5, zq6]
  refine wpAnyG_skip (i := 17) rfl (by kernel_rfl) (by kernel_rfl) (by kernel_rfl) rfl (fun _ _ _ h => h) (Or.inr (by assumption)) (by rfl) ?_
  try simp only [Act.put, zq1, zq2, zq3, zq4, zq5, zq6]
  refine wpAnyG_skip (i := 18) rfl (by kernel_rfl) (by kernel_rfl) (by kernel_rfl) rfl (fun _ _ _ h => h) (Or.inr (by assumption)) (by rfl) ?_
  try simp only [Act.put, zq1, zq2, zq3, zq4, zq5, zq6]
  refine wpAnyG_skip (i := 19) rfl (by kernel_rfl) (by kernel_rfl) (by kernel_rfl) rfl (fun _ _ _ h => h) (Or.inr (by assumption)) (by rfl) ?_
  try simp only [Act.put, zq1, zq2, zq3, zq4, zq5, zq6]
  refine wpAnyG_skip (i := 20) rfl (by kernel_rfl) (by kernel_rfl) (by kernel_rfl) rfl (fun _ _ _ h => h) (Or.inr (by assumption)) (by rfl) ?_
  try simp only [Act.put, zq1, zq2, zq3, zq4, zq5, zq6]
  refine wpAnyG_skip (i := 21) rfl (by kernel_rfl) (by kernel_rfl) (by kernel_rfl) rfl (fun _ _ _ h => h) (Or.inr (by assumption)) (by rfl) ?_
  try simp only [Act.put, zq1, zq2, zq3, zq4, zq5, zq6]
  refine tqW (i := 22) (v := ?_) rfl (.inr (by assumption)) ?_ ?_
  rotate_left
  ·(intro w; go_simp <;> (try with_reducible rfl))
  try simp only [Act.put, zq1, zq2, zq3, zq4, zq5, zq6]
  refine tqW (i := 23) (v := ?_) rfl (.inr (by assumption)) ?_ ?_
  rotate_left
  ·(intro w; go_simp <;> (try with_reducible rfl))
  try simp only [Act.put, zq1, zq2, zq3, zq4, zq5, zq6]
  refine wpAnyG_done (by kernel_rfl) ?_ _
  have HO2 := Lib.hid hHeld
  clear hHeld
  go_wp2_with fail
  go_ret
  exact BoolIf.mk false rfl (fun h => by cases h) (HOB.out.same HO2.out)
 ·obtain ⟨rn, rfl⟩ : ∃ n : Nat, r = n := ⟨r.toNat, by omega⟩
  obtain ⟨bo, hbo⟩ : ∃ b, onB g.off rn = b := ⟨_, rfl⟩
  have HOn : Hid (∀ W, Only (fun _ => False) W0 W → Calls Tryz.prog 63 #[.agg #[.slice (some ⟨bky, offy, none⟩) n_g_packs c_g_packs, .slice a_g_prefs n_g_prefs c_g_prefs, .slice a_g_roots n_g_roots c_g_roots, .slice a_g_c n_g_c c_g_c, .slice a_g_off n_g_off c_g_off], .int .i64 (rn : Int)] W fun e w' => e = .returned (.bool bo) ∧ Only (fun _ => False) W w') := fun W hW => by rw [← hbo]; exact On_any (HK_g.out W hW) rn (by omega)
  have HBo := Lib.hid hbo
  have hrn' : rn < (rulesOf g.x g.q (g.x.closure g.q.names)).length := by omega
  have HRn := Lib.hid hrn'
  clear hbo hr1 hr2 hfew hrn'
  cases bo with
  | false =>
   go_wp2_with fail
   refine wp_region_G (n := 24) (E := fun _ => false) (S := fun W => Only (fun _ => False) W0 W) (by kernel_rfl) rfl (by exact (HO1.out).drew) (fun hHeld => ?_)
   refine tqW (i := 0) (v := ?_) rfl (.inr (by assumption)) ?_ ?_
   rotate_left
   ·(intro w; go_simp <;> (try with_reducible rfl))
   try simp only [Act.put, zq1, zq3, zq4, zq5, zq6]
   refine tqW (i := 1) (v := ?_) rfl (.inr (by assumption)) ?_ ?_
   rotate_left
   ·(intro w; go_simp <;> (try with_reducible rfl))
   try simp only [Act.put, zq1, zq2, zq3, zq4, zq5, zq6]
   refine tqW (i := 2) (v := ?_) rfl (.inr (by assumption)) ?_ ?_
   rotate_left
   ·(intro w; go_simp <;> (try with_reducible rfl))
   try simp only [Act.put, zq1, zq2, zq3, zq4, zq5, zq6]
   refine tqK (i := 3) (v := ?_) rfl ?_ ?_
   rotate_left
   ·(intro w hSw; obtain ⟨k0, k1, k2, k3, k4⟩ := HBox.out w hSw; go_simp <;> (try with_reducible rfl))
   try simp only [Act.put, zq1, zq2, zq3, zq4, zq5, zq6]
   refine tqW (i := 4) (v := ?_) rfl (.inr (by assumption)) ?_ ?_
   rotate_left
   ·(intro w; go_simp <;> (try with_reducible rfl))
   try simp only [Act.put, zq1, zq2, zq3, zq4, zq5, zq6]
   refine wpAnyG_ready (rs := [5]) (by kernel_rfl) (by simp) ?_
   refine AllReadyG.cons (i := 5) rfl (fun K hK => ?_) ?_
   ·(go_simp; refine (HOn.out _ hHeld).mono ?_; rintro e w5 ⟨rfl, o5⟩; try go_wp2_with fail)
    refine hK.out _ _ ?_ (fun hHeld => ?_)
    ·(try dsimp only) <;> (exact Only.same hHeld o5)
    clear hK K
    try simp only [Act.put, zq1, zq2, zq3, zq4, zq5, zq6]
    refine tqW (i := 6) (v := ?_) rfl (.inr (by assumption)) ?_ ?_
    rotate_left
    ·(intro w; go_simp <;> (try with_reducible rfl))
    try simp only [Act.put, zq1, zq2, zq3, zq4, zq5, zq6]
    refine tqW (i := 7) (v := ?_) rfl (.inr (by assumption)) ?_ ?_
    rotate_left
    ·(intro w; go_simp <;> (try with_reducible rfl))
    try simp only [Act.put, zq1, zq2, zq3, zq4, zq5, zq6]
    refine wpAnyG_skip (i := 8) rfl (by kernel_rfl) (by kernel_rfl) (by kernel_rfl) rfl (fun _ _ _ h => h) (Or.inr (by assumption)) (by rfl) ?_
    try simp only [Act.put, zq1, zq2, zq3, zq4, zq5, zq6]
    refine wpAnyG_skip (i := 9) rfl (by kernel_rfl) (by kernel_rfl) (by kernel_rfl) rfl (fun _ _ _ h => h) (Or.inr (by assumption)) (by rfl) ?_
    try simp only [Act.put, zq1, zq2, zq3, zq4, zq5, zq6]
    refine wpAnyG_skip (i := 10) rfl (by kernel_rfl) (by kernel_rfl) (by kernel_rfl) rfl (fun _ _ _ h => h) (Or.inr (by assumption)) (by rfl) ?_
    try simp only [Act.put, zq1, zq2, zq3, zq4, zq5, zq6]
    refine wpAnyG_skip (i := 11) rfl (by kernel_rfl) (by kernel_rfl) (by kernel_rfl) rfl (fun _ _ _ h => h) (Or.inr (by assumption)) (by rfl) ?_
    try simp only [Act.put, zq1, zq2, zq3, zq4, zq5, zq6]
    refine wpAnyG_skip (i := 12) rfl (by kernel_rfl) (by kernel_rfl) (by kernel_rfl) rfl (fun _ _ _ h => h) (Or.inr (by assumption)) (by rfl) ?_
    try simp only [Act.put, zq1, zq2, zq3, zq4, zq5, zq6]
    refine wpAnyG_skip (i := 13) rfl (by kernel_rfl) (by kernel_rfl) (by kernel_rfl) rfl (fun _ _ _ h => h) (Or.inr (by assumption)) (by rfl) ?_
    try simp only [Act.put, zq1, zq2, zq3, zq4, zq5, zq6]
    refine wpAnyG_skip (i := 14) rfl (by kernel_rfl) (by kernel_rfl) (by kernel_rfl) rfl (fun _ _ _ h => h) (Or.inr (by assumption)) (by rfl) ?_
    try simp only [Act.put, zq1, zq2, zq3, zq4, zq5, zq6]
    refine wpAnyG_skip (i := 15) rfl (by kernel_rfl) (by kernel_rfl) (by kernel_rfl) rfl (fun _ _ _ h => h) (Or.inr (by assumption)) (by rfl) ?_
    try simp only [Act.put, zq1, zq2, zq3, zq4, zq5, zq6]
    refine wpAnyG_skip (i := 16) rfl (by kernel_rfl) (by kernel_rfl) (by kernel_rfl) rfl (fun _ _ _ h => h) (Or.inr (by assumption)) (by rfl) ?_
    try simp only [Act.put, zq1, zq2, zq3, zq4, zq5, zq6]
    refine wpAnyG_skip (i := 17) rfl (by kernel_rfl) (by kernel_rfl) (by kernel_rfl) rfl (fun _ _ _ h => h) (Or.inr (by assumption)) (by rfl) ?_
    try simp only [Act.put, zq1, zq2, zq3, zq4, zq5, zq6]
    refine wpAnyG_skip (i := 18) rfl (by kernel_rfl) (by kernel_rfl) (by kernel_rfl) rfl (fun _ _ _ h => h) (Or.inr (by assumption)) (by rfl) ?_
    try simp only [Act.put, zq1, zq2, zq3, zq4, zq5, zq6]
    refine wpAnyG_skip (i := 19) rfl (by kernel_rfl) (by kernel_rfl) (by kernel_rfl) rfl (fun _ _ _ h => h) (Or.inr (by assumption)) (by rfl) ?_
    try simp only [Act.put, zq1, zq2, zq3, zq4, zq5, zq6]
    refine wpAnyG_skip (i := 20) rfl (by kernel_rfl) (by kernel_rfl) (by kernel_rfl) rfl (fun _ _ _ h => h) (Or.inr (by assumption)) (by rfl) ?_
    try simp only [Act.put, zq1, zq2, zq3, zq4, zq5, zq6]
    refine wpAnyG_skip (i := 21) rfl (by kernel_rfl) (by kernel_rfl) (by kernel_rfl) rfl (fun _ _ _ h => h) (Or.inr (by assumption)) (by rfl) ?_
    try simp only [Act.put, zq1, zq2, zq3, zq4, zq5, zq6]
    refine tqW (i := 22) (v := ?_) rfl (.inr (by assumption)) ?_ ?_
    rotate_left
    ·(intro w; go_simp <;> (try with_reducible rfl))
    try simp only [Act.put, zq1, zq2, zq3, zq4, zq5, zq6]
    refine tqW (i := 23) (v := ?_) rfl (.inr (by assumption)) ?_ ?_
    rotate_left
    ·(intro w; go_simp <;> (try with_reducible rfl))
    try simp only [Act.put, zq1, zq2, zq3, zq4, zq5, zq6]
    refine wpAnyG_done (by kernel_rfl) ?_ _
    have HO2 := Lib.hid hHeld
    clear hHeld
    go_wp2_with fail
    go_ret
    exact BoolIf.mk false rfl (fun h => by cases h) (HOB.out.same HO2.out)
   exact AllReadyG.nil
  | true =>
   go_wp2_with fail
   refine wp_region_G (n := 24) (E := fun _ => false) (S := fun W => Only (fun _ => False) W0 W) (by kernel_rfl) rfl (by exact (HO1.out).drew) (fun hHeld => ?_)
   refine tqW (i := 0) (v := ?_) rfl (.inr (by assumption)) ?_ ?_
   rotate_left
   ·(intro w; go_simp <;> (try with_reducible rfl))
   try simp only [Act.put, zq1, zq3, zq4, zq5, zq6]
   refine tqW (i := 1) (v := ?_) rfl (.inr (by assumption)) ?_ ?_
   rotate_left
   ·(intro w; go_simp <;> (try with_reducible rfl))
   try simp only [Act.put, zq1, zq2, zq3, zq4, zq5, zq6]
   refine tqW (i := 2) (v := ?_) rfl (.inr (by assumption)) ?_ ?_
   rotate_left
   ·(intro w; go_simp <;> (try with_reducible rfl))
   try simp only [Act.put, zq1, zq2, zq3, zq4, zq5, zq6]
   refine tqK (i := 3) (v := ?_) rfl ?_ ?_
   rotate_left
   ·(intro w hSw; obtain ⟨k0, k1, k2, k3, k4⟩ := HBox.out w hSw; have hry := (HEy.out w hSw).1; have gy5 := hry 5 _ rfl; clear hry; have hrz := (HEz.out w hSw).1; have gz3 := hrz 3 _ rfl; have gz4 := hrz 4 _ rfl; have gz5 := hrz 5 _ rfl; clear hrz; go_simp <;> (try with_reducible rfl))
   try simp only [Act.put, zq1, zq2, zq3, zq4, zq5, zq6]
   refine tqW (i := 4) (v := ?_) rfl (.inr (by assumption)) ?_ ?_
   rotate_left
   ·(intro w; go_simp <;> (try with_reducible rfl))
   try simp only [Act.put, zq1, zq2, zq3, zq4, zq5, zq6]
   refine wpAnyG_ready (rs := [5]) (by kernel_rfl) (by simp) ?_
   refine AllReadyG.cons (i := 5) rfl (fun K hK => ?_) ?_
   ·(go_simp; refine (HOn.out _ hHeld).mono ?_; rintro e w5 ⟨rfl, o5⟩; try go_wp2_with fail)
    refine hK.out _ _ ?_ (fun hHeld => ?_)
    ·(try dsimp only) <;> (exact Only.same hHeld o5)
    clear hK K
    try simp only [Act.put, zq1, zq2, zq3, zq4, zq5, zq6]
    refine tqW (i := 6) (v := ?_) rfl (.inr (by assumption)) ?_ ?_
    rotate_left
    ·(intro w; go_simp <;> (try with_reducible rfl))
    try simp only [Act.put, zq1, zq2, zq3, zq4, zq5, zq6]
    refine tqW (i := 7) (v := ?_) rfl (.inr (by assumption)) ?_ ?_
    rotate_left
    ·(intro w; go_simp <;> (try with_reducible rfl))
    try simp only [Act.put, zq1, zq2, zq3, zq4, zq5, zq6]
    refine tqK (i := 8) (v := ?_) rfl ?_ ?_
    rotate_left
    ·(intro w hSw; obtain ⟨k0, k1, k2, k3, k4⟩ := HBox.out w hSw; have hry := (HEy.out w hSw).1; have gy5 := hry 5 _ rfl; clear hry; have hrz := (HEz.out w hSw).1; have gz3 := hrz 3 _ rfl; have gz4 := hrz 4 _ rfl; have gz5 := hrz 5 _ rfl; clear hrz; go_simp <;> (try with_reducible rfl))
    try simp only [Act.put, zq1, zq2, zq3, zq4, zq5, zq6]
    refine tqW (i := 9) (v := ?_) rfl (.inr (by assumption)) ?_ ?_
    rotate_left
    ·(intro w; go_simp <;> (try with_reducible rfl))
    try simp only [Act.put, zq1, zq2, zq3, zq4, zq5, zq6]
    refine tqW (i := 10) (v := ?_) rfl (.inr (by assumption)) ?_ ?_
    rotate_left
    ·(intro w; go_simp <;> (try with_reducible rfl))
    try simp only [Act.put, zq1, zq2, zq3, zq4, zq5, zq6]
    refine tqW (i := 11) (v := ?_) rfl (.inr (by assumption)) ?_ ?_
    rotate_left
    ·(intro w; go_simp <;> (try with_reducible rfl))
    try simp only [Act.put, zq1, zq2, zq3, zq4, zq5, zq6]
    refine tqK (i := 12) (v := ?_) rfl ?_ ?_
    rotate_left
    ·(intro w hSw; obtain ⟨k0, k1, k2, k3, k4⟩ := HBox.out w hSw; have hry := (HEy.out w hSw).1; have gy5 := hry 5 _ rfl; clear hry; have hrz := (HEz.out w hSw).1; have gz3 := hrz 3 _ rfl; have gz4 := hrz 4 _ rfl; have gz5 := hrz 5 _ rfl; clear hrz; go_simp <;> (try with_reducible rfl))
    try simp only [Act.put, zq1, zq2, zq3, zq4, zq5, zq6]
    refine tqW (i := 13) (v := ?_) rfl (.inr (by assumption)) ?_ ?_
    rotate_left
    ·(intro w; go_simp <;> (try with_reducible rfl))
    try simp only [Act.put, zq1, zq2, zq3, zq4, zq5, zq6]
    refine tqW (i := 14) (v := ?_) rfl (.inr (by assumption)) ?_ ?_
    rotate_left
    ·(intro w; go_simp <;> (try with_reducible rfl))
    try simp only [Act.put, zq1, zq2, zq3, zq4, zq5, zq6]
    refine tqW (i := 15) (v := ?_) rfl (.inr (by assumption)) ?_ ?_
    rotate_left
    ·(intro w; go_simp <;> (try with_reducible rfl))
    try simp only [Act.put, zq1, zq2, zq3, zq4, zq5, zq6]
    refine tqK (i := 16) (v := ?_) rfl ?_ ?_
    rotate_left
    ·(intro w hSw; obtain ⟨k0, k1, k2, k3, k4⟩ := HBox.out w hSw; have hry := (HEy.out w hSw).1; have gy5 := hry 5 _ rfl; clear hry; have hrz := (HEz.out w hSw).1; have gz3 := hrz 3 _ rfl; have gz4 := hrz 4 _ rfl; have gz5 := hrz 5 _ rfl; clear hrz; go_simp <;> (try with_reducible rfl))
    try simp only [Act.put, zq1, zq2, zq3, zq4, zq5, zq6]
    refine tqW (i := 17) (v := ?_) rfl (.inr (by assumption)) ?_ ?_
    rotate_left
    ·(intro w; go_simp <;> (try with_reducible rfl))
    try simp only [Act.put, zq1, zq2, zq3, zq4, zq5, zq6]
    refine tqW (i := 18) (v := ?_) rfl (.inr (by assumption)) ?_ ?_
    rotate_left
    ·(intro w; go_simp <;> (try with_reducible rfl))
    try simp only [Act.put, zq1, zq2, zq3, zq4, zq5, zq6]
    refine tqW (i := 19) (v := ?_) rfl (.inr (by assumption)) ?_ ?_
    rotate_left
    ·(intro w; go_simp <;> (try with_reducible rfl))
    try simp only [Act.put, zq1, zq2, zq3, zq4, zq5, zq6]
    refine tqK (i := 20) (v := ?_) rfl ?_ ?_
    rotate_left
    ·(intro w hSw; obtain ⟨k0, k1, k2, k3, k4⟩ := HBox.out w hSw; have hry := (HEy.out w hSw).1; have gy5 := hry 5 _ rfl; clear hry; have hrz := (HEz.out w hSw).1; have gz3 := hrz 3 _ rfl; have gz4 := hrz 4 _ rfl; have gz5 := hrz 5 _ rfl; clear hrz; go_simp <;> (try with_reducible rfl))
    try simp only [Act.put, zq1, zq2, zq3, zq4, zq5, zq6]
    refine wpAnyG_ready (rs := [21]) (by kernel_rfl) (by simp) ?_
    refine AllReadyG.cons (i := 21) rfl (fun K hK => ?_) ?_
    ·(go_simp; refine (HMe.out _ hHeld).mono ?_; rintro e w6 ⟨b, rfl, -, o6⟩; try go_wp2_with fail)
     refine hK.out _ _ ?_ (fun hHeld => ?_)
     ·(try dsimp only) <;> (exact Only.same hHeld o6)
     clear hK K
     try simp only [Act.put, zq1, zq2, zq3, zq4, zq5, zq6]
     refine tqW (i := 22) (v := ?_) rfl (.inr (by assumption)) ?_ ?_
     rotate_left
     ·(intro w; go_simp <;> (try with_reducible rfl))
     try simp only [Act.put, zq1, zq2, zq3, zq4, zq5, zq6]
     refine tqW (i := 23) (v := ?_) rfl (.inr (by assumption)) ?_ ?_
     rotate_left
     ·(intro w; go_simp <;> (try with_reducible rfl))
     try simp only [Act.put, zq1, zq2, zq3, zq4, zq5, zq6]
     refine wpAnyG_done (by kernel_rfl) ?_ _
     have HO2 := Lib.hid hHeld
     clear hHeld
     go_wp2_with fail
     go_ret
     exact BoolIf.mk b rfl (fun _ => ⟨rn, HRn.out, HBo.out⟩) (HOB.out.same HO2.out)
    exact AllReadyG.nil
   exact AllReadyG.nil
set_option maxRecDepth 100000 in
set_option maxHeartbeats 4000000 in
theorem Edge_any {csg : List Value} {g : GD} (hg : GC B w csg g) (hgr : GR g) (pn tn : Nat) (hpn : pn ≤ 1000000) (htn : tn ≤ 1000000) :
  Calls Tryz.prog 66 #[.agg csg.toArray, .int .i64 (pn : Int), .int .i64 (tn : Int)] w fun e w' => BoolIf (AnyOn g) w w' e := by
 have HH_g := Lib.hid hg
 obtain ⟨u1, u2, u3, u4, u5, rfl, r1, r2, r3, r4, r5⟩ := hg
 obtain ⟨a_g_packs, c_g_packs, rfl, g_g_packs, h_g_packs⟩ := r1.shape
 obtain ⟨n_g_packs, e1⟩ : ∃ n, g.x.packs.length = n := ⟨_, rfl⟩
 have N_g_packs := Lib.hid e1
 obtain ⟨a_g_prefs, c_g_prefs, rfl, g_g_prefs, h_g_prefs⟩ := r2.shape
 obtain ⟨n_g_prefs, e2⟩ : ∃ n, g.x.prefs.length = n := ⟨_, rfl⟩
 have N_g_prefs := Lib.hid e2
 obtain ⟨a_g_roots, c_g_roots, rfl, g_g_roots, h_g_roots⟩ := r3.shape
 obtain ⟨n_g_roots, e3⟩ : ∃ n, g.q.roots.length = n := ⟨_, rfl⟩
 have N_g_roots := Lib.hid e3
 obtain ⟨a_g_c, c_g_c, rfl, g_g_c, h_g_c⟩ := r4.shape
 obtain ⟨n_g_c, e4⟩ : ∃ n, g.c.length = n := ⟨_, rfl⟩
 have N_g_c := Lib.hid e4
 obtain ⟨a_g_off, c_g_off, rfl, g_g_off, h_g_off⟩ := r5.shape
 obtain ⟨n_g_off, e5⟩ : ∃ n, g.off.length = n := ⟨_, rfl⟩
 have N_g_off := Lib.hid e5
 rw [e1, e2, e3, e4, e5] at HH_g
 rw [e1] at r1 g_g_packs
 have RR_g_packs := Lib.hid r1
 rw [e2] at r2 g_g_prefs
 have RR_g_prefs := Lib.hid r2
 rw [e3] at r3 g_g_roots
 have RR_g_roots := Lib.hid r3
 rw [e4] at r4 g_g_c
 have RR_g_c := Lib.hid r4
 rw [e5] at r5 g_g_off
 have RR_g_off := Lib.hid r5
 rw [e1, e2, e3, e4, e5]
 clear e1 e2 e3 e4 e5 r1 r2 r3 r4 r5
 obtain ⟨W0, hW0⟩ : ∃ W0, W0 = (w.alloc (.cells #[.slice a_g_packs n_g_packs c_g_packs, .slice a_g_prefs n_g_prefs c_g_prefs, .slice a_g_roots n_g_roots c_g_roots, .slice a_g_c n_g_c c_g_c, .slice a_g_off n_g_off c_g_off] 62)) := ⟨_, rfl⟩
 have HOB : Hid (Only (fun _ => False) w W0) := by rw [hW0]; exact (Only.refl _ _).alloc _
 have HSz : Hid (W0.heap.size = w.heap.size + 1) := by rw [hW0]; simp [Hid]
 have HBox : Hid (∀ W, Only (fun _ => False) W0 W → W.cell? ⟨w.heap.size, 0, none⟩ = some (.slice a_g_packs n_g_packs c_g_packs) ∧ W.cell? ⟨w.heap.size, 1, none⟩ = some (.slice a_g_prefs n_g_prefs c_g_prefs) ∧ W.cell? ⟨w.heap.size, 2, none⟩ = some (.slice a_g_roots n_g_roots c_g_roots) ∧ W.cell? ⟨w.heap.size, 3, none⟩ = some (.slice a_g_c n_g_c c_g_c) ∧ W.cell? ⟨w.heap.size, 4, none⟩ = some (.slice a_g_off n_g_off c_g_off)) := fun W ho => by
  have b0 : W0.heap[w.heap.size]? = some (.cells #[.slice a_g_packs n_g_packs c_g_packs, .slice a_g_prefs n_g_prefs c_g_prefs, .slice a_g_roots n_g_roots c_g_roots, .slice a_g_c n_g_c c_g_c, .slice a_g_off n_g_off c_g_off] 62) := by rw [hW0]; exact alloc_at rfl
  have d0 := only_block b0 ho (fun f => f)
  exact ⟨by rw [cell_block d0]; rfl, by rw [cell_block d0]; rfl, by rw [cell_block d0]; rfl, by rw [cell_block d0]; rfl, by rw [cell_block d0]; rfl⟩
 have HK_g : Hid (∀ W, Only (fun _ => False) W0 W → GC B W [.slice a_g_packs n_g_packs c_g_packs, .slice a_g_prefs n_g_prefs c_g_prefs, .slice a_g_roots n_g_roots c_g_roots, .slice a_g_c n_g_c c_g_c, .slice a_g_off n_g_off c_g_off] g) := fun W ho => GC.keep HH_g.out (Kp.of0 (HOB.out.same ho) : Kp B w W)
 have HR_g_packs : Hid (∀ W, Only (fun _ => False) W0 W → RowT 8 PackC B W (.slice a_g_packs n_g_packs c_g_packs) g.x.packs) := fun W ho => RR_g_packs.out.keep PackC.keep (Kp.of0 (HOB.out.same ho))
 clear RR_g_packs
 have HR_g_prefs : Hid (∀ W, Only (fun _ => False) W0 W → RowT 3 PrefC B W (.slice a_g_prefs n_g_prefs c_g_prefs) g.x.prefs) := fun W ho => RR_g_prefs.out.keep PrefC.keep (Kp.of0 (HOB.out.same ho))
 clear RR_g_prefs
 have HR_g_roots : Hid (∀ W, Only (fun _ => False) W0 W → RowT 4 RootC B W (.slice a_g_roots n_g_roots c_g_roots) g.q.roots) := fun W ho => RR_g_roots.out.keep RootC.keep (Kp.of0 (HOB.out.same ho))
 clear RR_g_roots
 have HR_g_c : Hid (∀ W, Only (fun _ => False) W0 W → RowT 2 CC B W (.slice a_g_c n_g_c c_g_c) g.c) := fun W ho => RR_g_c.out.keep CC.keep (Kp.of0 (HOB.out.same ho))
 clear RR_g_c
 have HR_g_off : Hid (∀ W, Only (fun _ => False) W0 W → RowT 1 BoolC B W (.slice a_g_off n_g_off c_g_off) g.off) := fun W ho => RR_g_off.out.keep BoolC.keep (Kp.of0 (HOB.out.same ho))
 clear RR_g_off
 clear HH_g
 have HOk := Lib.hid hgr
 obtain ⟨bT1, hbT1⟩ : ∃ b, thereB g.c (pn : Int) = b := ⟨_, rfl⟩
 obtain ⟨bT2, hbT2⟩ : ∃ b, thereB g.c (tn : Int) = b := ⟨_, rfl⟩
 have T1 : Hid (∀ W, Only (fun _ => False) W0 W → Calls Tryz.prog 64 #[.agg #[.slice a_g_packs n_g_packs c_g_packs, .slice a_g_prefs n_g_prefs c_g_prefs, .slice a_g_roots n_g_roots c_g_roots, .slice a_g_c n_g_c c_g_c, .slice a_g_off n_g_off c_g_off], .int .i64 (pn : Int)] W fun e w' => e = .returned (.bool bT1) ∧ Only (fun _ => False) W w') := fun W hW => by rw [← hbT1]; exact There_any (HK_g.out W hW) pn ⟨by omega, by omega⟩
 have T2 : Hid (∀ W, Only (fun _ => False) W0 W → Calls Tryz.prog 64 #[.agg #[.slice a_g_packs n_g_packs c_g_packs, .slice a_g_prefs n_g_prefs c_g_prefs, .slice a_g_roots n_g_roots c_g_roots, .slice a_g_c n_g_c c_g_c, .slice a_g_off n_g_off c_g_off], .int .i64 (tn : Int)] W fun e w' => e = .returned (.bool bT2) ∧ Only (fun _ => False) W w') := fun W hW => by rw [← hbT2]; exact There_any (HK_g.out W hW) tn ⟨by omega, by omega⟩
 obtain ⟨k0, k1, k2, k3, k4⟩ := HBox.out W0 (Only.refl _ _)
 rw [hW0] at k0 k1 k2 k3 k4
 go_enter Tryz.func66, Tryz.ntmps66
 go_wp2_with fail
 rw [← hW0] at k0 k1 k2 k3 k4 ⊢
 clear hW0
 refine (T1.out W0 (Only.refl _ _)).mono ?_
 rintro e w1 ⟨rfl, O1⟩
 have HO1 := Lib.hid O1
 clear O1
 clear k0 k1 k2 k3 k4
 obtain ⟨k0, k1, k2, k3, k4⟩ := HBox.out w1 HO1.out
 cases bT1 with
 | false =>
  go_wp2_with fail
  go_ret
  exact BoolIf.mk false rfl (fun h => by cases h) (HOB.out.same HO1.out)
 | true =>
  go_wp2_with fail
  refine (T2.out w1 HO1.out).mono ?_
  rintro e w2 ⟨rfl, O2⟩
  have HO2 := Lib.hid (HO1.out.same O2)
  clear O2
  clear k0 k1 k2 k3 k4
  obtain ⟨k0, k1, k2, k3, k4⟩ := HBox.out w2 HO2.out
  cases bT2 with
  | false =>
   go_wp2_with fail
   go_ret
   exact BoolIf.mk false rfl (fun h => by cases h) (HOB.out.same HO2.out)
  | true =>
   have hpx : pn < n_g_packs := by
    obtain ⟨p2, e1, h2, -⟩ := there_elim hbT1
    rw [hgr.ok.len, N_g_packs.out] at h2
    omega
   clear hbT1 hbT2 T1 T2 hgr
   obtain ⟨yy, hxy⟩ : ∃ y, g.x.packs[pn]? = some y := ⟨_, List.getElem?_eq_getElem (by rw [N_g_packs.out]; omega)⟩
   obtain ⟨bky, offy, ay1, ny1, cy1, ay2, ny2, cy2, ay3, ny3, cy3, ay4, ny4, cy4, ay5, ny5, cy5, ay6, ny6, cy6, hey, N0y1, N0y2, N0y3, N0y4, N0y5, N0y6, oky1, iny1, HE0y⟩ := PackC_at (HR_g_packs.out W0 (Only.refl _ _)) hxy
   first
    | subst hey
    | (simp only [Option.some.injEq, Addr.mk.injEq, and_true] at hey; obtain ⟨rfl, rfl⟩ := hey)
   have Ny1 := Lib.hid N0y1
   have Ny2 := Lib.hid N0y2
   have Ny3 := Lib.hid N0y3
   have Ny4 := Lib.hid N0y4
   have Ny5 := Lib.hid N0y5
   have Ny6 := Lib.hid N0y6
   have HEy := Lib.hid HE0y
   have HXy := Lib.hid hxy
   clear HE0y hxy N0y1 N0y2 N0y3 N0y4 N0y5 N0y6
   have HRy1 : Hid (∀ W, Only (fun _ => False) W0 W → RowT 2 RelC B W (.slice ay1 ny1 cy1) yy.rels) := fun W ho => (HEy.out W ho).2.1
   have HRy2 : Hid (∀ W, Only (fun _ => False) W0 W → RowT 2 VarC B W (.slice ay2 ny2 cy2) yy.vars) := fun W ho => (HEy.out W ho).2.2.1
   have HRy3 : Hid (∀ W, Only (fun _ => False) W0 W → RowT 1 StrC B W (.slice ay3 ny3 cy3) yy.provides) := fun W ho => (HEy.out W ho).2.2.2.1
   have HRy4 : Hid (∀ W, Only (fun _ => False) W0 W → RowT 7 DepC B W (.slice ay4 ny4 cy4) yy.deps) := fun W ho => (HEy.out W ho).2.2.2.2.1
   have HRy5 : Hid (∀ W, Only (fun _ => False) W0 W → RowT 7 ConC B W (.slice ay5 ny5 cy5) yy.cons) := fun W ho => (HEy.out W ho).2.2.2.2.2.1
   have HRy6 : Hid (∀ W, Only (fun _ => False) W0 W → RowT 1 StrC B W (.slice ay6 ny6 cy6) yy.files) := fun W ho => (HEy.out W ho).2.2.2.2.2.2.1
   have HCy : Hid (∀ W, Only (fun _ => False) W0 W → PackC B W [.string yy.name, .int .i64 yy.line, .slice ay1 ny1 cy1, .slice ay2 ny2 cy2, .slice ay3 ny3 cy3, .slice ay4 ny4 cy4, .slice ay5 ny5 cy5, .slice ay6 ny6 cy6] yy) := fun W ho => (HEy.out W ho).2.2.2.2.2.2.2
   have HPk : Hid (g.x.pack pn = yy) := by unfold RecD.pack; rw [List.getD_eq_getElem?_getD, HXy.out]; exact rfl
   obtain ⟨_, _, -, hb3, hb4⟩ := (HRy4.out W0 (Only.refl _ _)).shape
   rw [Ny4.out] at hb3
   have hry := (HEy.out w2 HO2.out).1
   have gy5 := hry 5 _ rfl
   clear hry
   have HOC := HO2
   go_wp2_with fail
   clear gy5
   clear k0 k1 k2 k3 k4
   go_loopw [28] (fun vi wri => Hid (Only (fun _ => False) W0 wri) ∧ ∃ i : Nat, vi = .int .i64 i ∧ i ≤ ny4) (fun v _ => ny4 - (RowKit.intOf v).toNat)
   case atStart => exact ⟨HOC, 0, rfl, Nat.zero_le _⟩
   case round =>
    obtain ⟨wri, rfl⟩ : ∃ W, W = wr := ⟨_, rfl⟩
    clear HOC
    obtain ⟨HOi, i, rfl, hi⟩ := hrel
    obtain ⟨k0, k1, k2, k3, k4⟩ := HBox.out wri HOi.out
    by_cases ci : i < ny4
    ·have ewi : IntKind.i64.wrap ((i : Int) + 1) = (i : Int) + 1 := by rw [IntKind.wrap_i64]; omega
     obtain ⟨yz, hxz⟩ : ∃ y, yy.deps[i]? = some y := ⟨_, List.getElem?_eq_getElem (by rw [Ny4.out]; omega)⟩
     obtain ⟨bkz, offz, az1, nz1, cz1, az2, nz2, cz2, az3, nz3, cz3, az4, nz4, cz4, hez, N0z1, N0z2, N0z3, N0z4, okz1, okz2, inz1, HE0z⟩ := DepC_at (HRy4.out W0 (Only.refl _ _)) hxz
     first
      | subst hez
      | (simp only [Option.some.injEq, Addr.mk.injEq, and_true] at hez; obtain ⟨rfl, rfl⟩ := hez)
     have Nz1 := Lib.hid N0z1
     have Nz2 := Lib.hid N0z2
     have Nz3 := Lib.hid N0z3
     have Nz4 := Lib.hid N0z4
     have HEz := Lib.hid HE0z
     have HXz := Lib.hid hxz
     clear HE0z hxz N0z1 N0z2 N0z3 N0z4
     have HRz1 : Hid (∀ W, Only (fun _ => False) W0 W → RowT 2 SpanC B W (.slice az1 nz1 cz1) yz.on.spans) := fun W ho => (HEz.out W ho).2.1
     have HRz2 : Hid (∀ W, Only (fun _ => False) W0 W → RowT 2 SetC B W (.slice az2 nz2 cz2) yz.on.sets) := fun W ho => (HEz.out W ho).2.2.1
     have HRz3 : Hid (∀ W, Only (fun _ => False) W0 W → RowT 2 SpanC B W (.slice az3 nz3 cz3) yz.cond.spans) := fun W ho => (HEz.out W ho).2.2.2.1
     have HRz4 : Hid (∀ W, Only (fun _ => False) W0 W → RowT 2 SetC B W (.slice az4 nz4 cz4) yz.cond.sets) := fun W ho => (HEz.out W ho).2.2.2.2.1
     have HCz : Hid (∀ W, Only (fun _ => False) W0 W → DepC B W [.string yz.on.name, .slice az1 nz1 cz1, .slice az2 nz2 cz2, .string yz.cond.name, .slice az3 nz3 cz3, .slice az4 nz4 cz4, .int .i64 yz.line] yz) := fun W ho => (HEz.out W ho).2.2.2.2.2
     have HAc : Hid (∀ W, Only (fun _ => False) W0 W → Calls Tryz.prog 65 #[.agg #[.slice (some ⟨bky, offy, none⟩) n_g_packs c_g_packs, .slice a_g_prefs n_g_prefs c_g_prefs, .slice a_g_roots n_g_roots c_g_roots, .slice a_g_c n_g_c c_g_c, .slice a_g_off n_g_off c_g_off], .int .i64 (pn : Int), .int .i64 (i : Int)] W fun e w' => BoolIf (AnyOn g) W w' e) := fun W hW => Active_any (HK_g.out W hW) HOk.out pn (by rw [N_g_packs.out]; exact hpx) i (by rw [HPk.out, Ny4.out]; exact ci)
     obtain ⟨bb, hbb⟩ : ∃ b, decide (tn ∈ g.x.targets yz.on.name) = b := ⟨_, rfl⟩
     have HTg : Hid (∀ W, Only (fun _ => False) W0 W → Calls Tryz.prog 56 #[.agg #[.slice (some ⟨bky, offy, none⟩) n_g_packs c_g_packs, .slice a_g_prefs n_g_prefs c_g_prefs], .string yz.on.name] W fun e w' => ∃ v, e = .returned v ∧ Ints w' v (intsOf (g.x.targets yz.on.name)) ∧ Only (fun _ => False) W w') := fun W hW => Targets10_any (HK_g.out W hW).rec_ (by have := HOk.out.ru.packs; omega) _
     have HHs : Hid (∀ W v, Ints W v (intsOf (g.x.targets yz.on.name)) → Calls Tryz.prog 24 #[v, .int .i64 (tn : Int)] W fun e w' => e = .returned (.bool bb) ∧ Only (fun _ => False) W w') := fun W v hv => by
      rw [← hbb, ← contains_ints]
      exact Has_any hv _
     clear hbb
     go_wp2_with fail
     clear k0 k1 k2 k3 k4
     refine wp_region_G (n := 17) (E := fun _ => false) (S := fun W => Only (fun _ => False) W0 W) (by kernel_rfl) rfl (by exact (HOi.out).drew) (fun hHeld => ?_)
     refine tqK (i := 0) (v := ?_) rfl ?_ ?_
     rotate_left
     ·(intro w hSw; obtain ⟨k0, k1, k2, k3, k4⟩ := HBox.out w hSw; have hrz := (HEz.out w hSw).1; have gz0 := hrz 0 _ rfl; rw [Nat.add_zero] at gz0; clear hrz; go_simp <;> (try with_reducible rfl))
     try simp only [Act.put, zq1, zq3, zq4, zq5, zq6]
     refine tqW (i := 1) (v := ?_) rfl (.inr (by assumption)) ?_ ?_
     rotate_left
     ·(intro w; go_simp <;> (try with_reducible rfl))
     try simp only [Act.put, zq1, zq2, zq3, zq4, zq5, zq6]
     refine tqW (i := 2) (v := ?_) rfl (.inr (by assumption)) ?_ ?_
     rotate_left
     ·(intro w; go_simp <;> (try with_reducible rfl))
     try simp only [Act.put, zq1, zq2, zq3, zq4, zq5, zq6]
     refine wpAnyG_ready (rs := [3]) (by kernel_rfl) (by simp) ?_
     refine AllReadyG.cons (i := 3) rfl (fun K hK => ?_) ?_
     ·(go_simp; refine (HAc.out _ hHeld).mono ?_; rintro e w5 ⟨b, rfl, hb, o5⟩; try go_wp2_with fail)
      refine hK.out _ _ ?_ (fun hHeld => ?_)
      ·(try dsimp only) <;> (exact Only.same hHeld o5)
      clear hK K
      try simp only [Act.put, zq1, zq2, zq3, zq4, zq5, zq6]
      refine tqW (i := 4) (v := ?_) rfl (.inr (by assumption)) ?_ ?_
      rotate_left
      ·(intro w; go_simp <;> (try with_reducible rfl))
      try simp only [Act.put, zq1, zq2, zq3, zq4, zq5, zq6]
      cases b with
      | false =>
       refine wpAnyG_skip (i := 5) rfl (by kernel_rfl) (by kernel_rfl) (by kernel_rfl) rfl (fun _ _ _ h => h) (Or.inr (by assumption)) (by rfl) ?_
       try simp only [Act.put, zq1, zq2, zq3, zq4, zq5, zq6]
       refine wpAnyG_skip (i := 6) rfl (by kernel_rfl) (by kernel_rfl) (by kernel_rfl) rfl (fun _ _ _ h => h) (Or.inr (by assumption)) (by rfl) ?_
       try simp only [Act.put, zq1, zq2, zq3, zq4, zq5, zq6]
       refine wpAnyG_skip (i := 7) rfl (by kernel_rfl) (by kernel_rfl) (by kernel_rfl) rfl (fun _ _ _ h => h) (Or.inr (by assumption)) (by rfl) ?_
       try simp only [Act.put, zq1, zq2, zq3, zq4, zq5, zq6]
       refine wpAnyG_skip (i := 8) rfl (by kernel_rfl) (by kernel_rfl) (by kernel_rfl) rfl (fun _ _ _ h => h) (Or.inr (by assumption)) (by rfl) ?_
       try simp only [Act.put, zq1, zq2, zq3, zq4, zq5, zq6]
       refine wpAnyG_skip (i := 9) rfl (by kernel_rfl) (by kernel_rfl) (by kernel_rfl) rfl (fun _ _ _ h => h) (Or.inr (by assumption)) (by rfl) ?_
       try simp only [Act.put, zq1, zq2, zq3, zq4, zq5, zq6]
       refine wpAnyG_skip (i := 10) rfl (by kernel_rfl) (by kernel_rfl) (by kernel_rfl) rfl (fun _ _ _ h => h) (Or.inr (by assumption)) (by rfl) ?_
       try simp only [Act.put, zq1, zq2, zq3, zq4, zq5, zq6]
       refine wpAnyG_skip (i := 11) rfl (by kernel_rfl) (by kernel_rfl) (by kernel_rfl) rfl (fun _ _ _ h => h) (Or.inr (by assumption)) (by rfl) ?_
       try simp only [Act.put, zq1, zq2, zq3, zq4, zq5, zq6]
       refine wpAnyG_skip (i := 12) rfl (by kernel_rfl) (by kernel_rfl) (by kernel_rfl) rfl (fun _ _ _ h => h) (Or.inr (by assumption)) (by rfl) ?_
       try simp only [Act.put, zq1, zq2, zq3, zq4, zq5, zq6]
       refine wpAnyG_skip (i := 13) rfl (by kernel_rfl) (by kernel_rfl) (by kernel_rfl) rfl (fun _ _ _ h => h) (Or.inr (by assumption)) (by rfl) ?_
       try simp only [Act.put, zq1, zq2, zq3, zq4, zq5, zq6]
       refine wpAnyG_skip (i := 14) rfl (by kernel_rfl) (by kernel_rfl) (by kernel_rfl) rfl (fun _ _ _ h => h) (Or.inr (by assumption)) (by rfl) ?_
       try simp only [Act.put, zq1, zq2, zq3, zq4, zq5, zq6]
       refine wpAnyG_skip (i := 15) rfl (by kernel_rfl) (by kernel_rfl) (by kernel_rfl) rfl (fun _ _ _ h => h) (Or.inr (by assumption)) (by rfl) ?_
       try simp only [Act.put, zq1, zq2, zq3, zq4, zq5, zq6]
       refine tqW (i := 16) (v := ?_) rfl (.inr (by assumption)) ?_ ?_
       rotate_left
       ·(intro w; go_simp <;> (try with_reducible rfl))
       try simp only [Act.put, zq1, zq2, zq3, zq4, zq5, zq6]
       refine wpAnyG_done (by kernel_rfl) ?_ _
       have HO7 := Lib.hid hHeld
       clear hHeld
       go_wp2_with fail
       go_roundw
       case rel => exact ⟨HO7, i + 1, by first | rfl | go_num, by omega⟩
       case measure => simp [RowKit.intOf] <;> omega
      | true =>
       have HAny := Lib.hid (hb rfl)
       refine tqW (i := 5) (v := ?_) rfl (.inr (by assumption)) ?_ ?_
       rotate_left
       ·(intro w; go_simp <;> (try with_reducible rfl))
       try simp only [Act.put, zq1, zq2, zq3, zq4, zq5, zq6]
       refine tqK (i := 6) (v := ?_) rfl ?_ ?_
       rotate_left
       ·(intro w hSw; obtain ⟨k0, k1, k2, k3, k4⟩ := HBox.out w hSw; have hrz := (HEz.out w hSw).1; have gz0 := hrz 0 _ rfl; rw [Nat.add_zero] at gz0; clear hrz; go_simp <;> (try with_reducible rfl))
       try simp only [Act.put, zq1, zq2, zq3, zq4, zq5, zq6]
       refine tqW (i := 7) (v := ?_) rfl (.inr (by assumption)) ?_ ?_
       rotate_left
       ·(intro w; go_simp <;> (try with_reducible rfl))
       try simp only [Act.put, zq1, zq2, zq3, zq4, zq5, zq6]
       refine tqW (i := 8) (v := ?_) rfl (.inr (by assumption)) ?_ ?_
       rotate_left
       ·(intro w; go_simp <;> (try with_reducible rfl))
       try simp only [Act.put, zq1, zq2, zq3, zq4, zq5, zq6]
       refine tqW (i := 9) (v := ?_) rfl (.inr (by assumption)) ?_ ?_
       rotate_left
       ·(intro w; go_simp <;> (try with_reducible rfl))
       try simp only [Act.put, zq1, zq2, zq3, zq4, zq5, zq6]
       refine tqW (i := 10) (v := ?_) rfl (.inr (by assumption)) ?_ ?_
       rotate_left
       ·(intro w; go_simp <;> (try with_reducible rfl))
       try simp only [Act.put, zq1, zq2, zq3, zq4, zq5, zq6]
       refine tqW (i := 11) (v := ?_) rfl (.inr (by assumption)) ?_ ?_
       rotate_left
       ·(intro w; go_simp <;> (try with_reducible rfl))
       try simp only [Act.put, zq1, zq2, zq3, zq4, zq5, zq6]
       refine tqK (i := 12) (v := ?_) rfl ?_ ?_
       rotate_left
       ·(intro w hSw; obtain ⟨k0, k1, k2, k3, k4⟩ := HBox.out w hSw; have hrz := (HEz.out w hSw).1; have gz0 := hrz 0 _ rfl; rw [Nat.add_zero] at gz0; clear hrz; go_simp <;> (try with_reducible rfl))
       try simp only [Act.put, zq1, zq2, zq3, zq4, zq5, zq6]
       refine tqW (i := 14) (v := ?_) rfl (.inr (by assumption)) ?_ ?_
       rotate_left
       ·(intro w; go_simp <;> (try with_reducible rfl))
       try simp only [Act.put, zq1, zq2, zq3, zq4, zq5, zq6]
       refine wpAnyG_ready (rs := [13]) (by kernel_rfl) (by simp) ?_
       refine AllReadyG.cons (i := 13) rfl (fun K hK => ?_) ?_
       ·(go_simp; refine (HTg.out _ hHeld).mono ?_; rintro e w6 ⟨vt, rfl, hI, o6⟩; try go_wp2_with fail)
        refine hK.out _ _ ?_ (fun hHeld => ?_)
        ·(try dsimp only) <;> (exact Only.same hHeld o6)
        clear hK K
        try simp only [Act.put, zq1, zq2, zq3, zq4, zq5, zq6]
        refine wpAnyG_ready (rs := [15]) (by kernel_rfl) (by simp) ?_
        refine AllReadyG.cons (i := 15) rfl (fun K hK => ?_) ?_
        ·(go_simp; refine (HHs.out _ _ hI).mono ?_; rintro e w7 ⟨rfl, o7⟩; try go_wp2_with fail)
         refine hK.out _ _ ?_ (fun hHeld => ?_)
         ·(try dsimp only) <;> (exact Only.same hHeld o7)
         clear hK K
         try simp only [Act.put, zq1, zq2, zq3, zq4, zq5, zq6]
         refine tqW (i := 16) (v := ?_) rfl (.inr (by assumption)) ?_ ?_
         rotate_left
         ·(intro w; go_simp <;> (try with_reducible rfl))
         try simp only [Act.put, zq1, zq2, zq3, zq4, zq5, zq6]
         refine wpAnyG_done (by kernel_rfl) ?_ _
         have HO7 := Lib.hid hHeld
         clear hHeld
         cases bb with
         | true =>
          go_wp2_with fail
          go_ret
          exact BoolIf.mk true rfl (fun _ => HAny.out) (HOB.out.same HO7.out)
         | false =>
          go_wp2_with fail
          go_roundw
          case rel => exact ⟨HO7, i + 1, by first | rfl | go_num, by omega⟩
          case measure => simp [RowKit.intOf] <;> omega
        exact AllReadyG.nil
       exact AllReadyG.nil
     exact AllReadyG.nil
    ·obtain rfl : ny4 = i := by omega
     go_wp2_with fail
     go_ret
     exact BoolIf.mk false rfl (fun h => by cases h) (HOB.out.same HOi.out)
end
section
variable {w w' : World} {B : Nat}
theorem slBool9 : SlT Tryz.prog 58 4 1 1 := SlT.mk' (z := .bool false) Tryz.underlying58 (by kernel_rfl) rfl (by decide)
theorem slRows9 : SlT Tryz.prog 100 58 1 24 := SlT.mk' (z := nilS) Tryz.underlying100 (by kernel_rfl) rfl (by decide)
theorem own_type {e e' : TypeId} {s s' n n' : Nat} {v v' : Value} {xs xs' : List Value} (hne : e ≠ e') (h : w.ownsRow 0 e s v n xs) (h' : w.ownsRow 0 e' s' v' n' xs') {k : Nat} (hk : v.ownBlock = some k) : v'.ownBlock ≠ some k := by
 intro h2
 rcases h.2 with ⟨rfl, _⟩ | ⟨g, cap, cur, rfl, -, hg, -⟩
 ·cases hk
 ·rcases h'.2 with ⟨rfl, _⟩ | ⟨g', cap', cur', rfl, -, hg', -⟩
  ·cases h2
  ·simp only [Value.ownBlock, Option.some.injEq] at hk h2
   subst hk
   subst h2
   rw [hg] at hg'
   simp only [Option.some.injEq, Obj.cells.injEq] at hg'
   exact hne hg'.2.1
structure RB (w0 w : World) (v : Value) (bs : List Bool) : Prop where
 own : w.ownsRow 0 4 1 v bs.length (bs.map Value.bool)
 new : ∀ k, v.ownBlock = some k → w0.heap.size ≤ k
structure BB (w0 w : World) (v : Value) (n : Nat) (L : List Value) : Prop where
 own : w.ownsRow 0 58 1 v L.length L
 new : ∀ k, v.ownBlock = some k → w0.heap.size ≤ k
 rows : ∀ r ∈ L, ∃ bs : List Bool, bs.length = n ∧ w.ownsRow 0 4 1 r n (bs.map Value.bool)
theorem RB.app {w0 w1 w2 : World} {v v' : Value} {bs : List Bool} {b : Bool} (h : RB w0 w1 v bs) (hs : w0.heap.size ≤ w1.heap.size) (s1 : w2.ownsRow 0 4 1 v' (bs.length + 1) (bs.map Value.bool ++ [.bool b])) (a : AppTo w1 v v' (bs.length + 1)) : RB w0 w2 v' (bs ++ [b]) := by
 refine ⟨by simpa using s1, fun k hk => ?_⟩
 obtain ⟨g, cap, rfl, -, -, hg⟩ := a
 simp only [Value.ownBlock, Option.some.injEq] at hk
 subst hk
 rcases hg with hg | hg
 ·exact h.new g hg
 ·omega
theorem BB.only {w0 w1 w2 : World} {v : Value} {n : Nat} {L : List Value} {F : Nat → Prop} (h : BB w0 w1 v n L) (ho : Only F w1 w2) (hF : ∀ k, F k → w1.heap.size ≤ k) : BB w0 w2 v n L := by
 refine ⟨own_only h.own ho (fun k hk f => by have := own_lt h.own hk; have := hF k f; omega), h.new, fun r hr => ?_⟩
 obtain ⟨bs, e, hb⟩ := h.rows r hr
 exact ⟨bs, e, own_only hb ho (fun k hk f => by have := own_lt hb hk; have := hF k f; omega)⟩
theorem BB.only0 {w0 w1 w2 : World} {v : Value} {n : Nat} {L : List Value} (h : BB w0 w1 v n L) (ho : Only (fun _ => False) w1 w2) : BB w0 w2 v n L := h.only ho (fun _ f => f.elim)
theorem BB.app {w0 w1 w2 : World} {v v' : Value} {n : Nat} {L : List Value} {r : Value} (h : BB w0 w1 v n L) (hs : w0.heap.size ≤ w1.heap.size) (s1 : w2.ownsRow 0 58 1 v' (L.length + 1) (L ++ [r])) (o : Only (fun k => v.ownBlock = some k) w1 w2) (a : AppTo w1 v v' (L.length + 1)) (hr : ∃ bs : List Bool, bs.length = n ∧ w1.ownsRow 0 4 1 r n (bs.map Value.bool)) : BB w0 w2 v' n (L ++ [r]) := by
 have keep : ∀ r', (∃ bs : List Bool, bs.length = n ∧ w1.ownsRow 0 4 1 r' n (bs.map Value.bool)) → ∃ bs : List Bool, bs.length = n ∧ w2.ownsRow 0 4 1 r' n (bs.map Value.bool) := by
  rintro r' ⟨bs, e, hb⟩
  exact ⟨bs, e, own_only hb o (fun k hk f => own_type (by decide) hb h.own hk f)⟩
 refine ⟨by simpa using s1, fun k hk => ?_, fun r' hr' => ?_⟩
 ·obtain ⟨g, cap, rfl, -, -, hg⟩ := a
  simp only [Value.ownBlock, Option.some.injEq] at hk
  subst hk
  rcases hg with hg | hg
  ·exact h.new g hg
  ·omega
 ·rcases List.mem_append.1 hr' with hr' | hr'
  ·exact keep _ (h.rows r' hr')
  ·rw [List.mem_singleton.1 hr']; exact keep _ hr
theorem BB.set {w0 w1 : World} {g m cap n : Nat} {L : List Value} (h : BB w0 w1 (.slice (some ⟨g, 0, none⟩) m cap) n L) {i : Nat} {r : Value} (hr : ∃ bs : List Bool, bs.length = n ∧ w1.ownsRow 0 4 1 r n (bs.map Value.bool)) : BB w0 (w1.setCell ⟨g, i, none⟩ r) (.slice (some ⟨g, 0, none⟩) m cap) n (L.set i r) := by
 have o : Only (fun k => k = g) w1 (w1.setCell ⟨g, i, none⟩ r) := (Only.refl (fun k => k = g) w1).setCell (p := ⟨g, i, none⟩) (.inl rfl) _
 have keep : ∀ r', (∃ bs : List Bool, bs.length = n ∧ w1.ownsRow 0 4 1 r' n (bs.map Value.bool)) → ∃ bs : List Bool, bs.length = n ∧ (w1.setCell ⟨g, i, none⟩ r).ownsRow 0 4 1 r' n (bs.map Value.bool) := by
  rintro r' ⟨bs, e, hb⟩
  exact ⟨bs, e, own_only hb o (fun k hk f => own_type (by decide) hb h.own hk (by rw [f]; rfl))⟩
 have hm : m = L.length := by
  obtain ⟨ao, c, e, -, -⟩ := own_slice h.own
  simp only [Value.slice.injEq] at e
  exact e.2.1
 subst hm
 refine ⟨by rw [List.length_set]; exact (h.own.stored i r).1, h.new, fun r' hr' => ?_⟩
 rcases List.mem_or_eq_of_mem_set hr' with hr' | rfl
 ·exact keep _ (h.rows r' hr')
 ·exact keep _ hr
theorem BB.get {w0 : World} {v : Value} {n : Nat} {L : List Value} (h : BB w0 w v n L) {i : Nat} (hi : i < L.length) :
  ∃ g cap a c, v = .slice (some ⟨g, 0, none⟩) L.length cap ∧ L[i]? = some (.slice a n c) ∧ w.cell? ⟨g, i, none⟩ = some (.slice a n c) ∧ ∀ k, k < n → ∃ b y, a = some ⟨b, 0, none⟩ ∧ w.cell? ⟨b, k, none⟩ = some (.bool y) := by
 obtain ⟨g, cap, rfl, -, -⟩ := own_some h.own (by omega)
 have hm : L[i] ∈ L := List.getElem_mem hi
 obtain ⟨bs, e, hb⟩ := h.rows _ hm
 obtain ⟨a, c, e2, -, -⟩ := own_slice hb
 refine ⟨g, cap, a, c, rfl, by rw [List.getElem?_eq_getElem hi, e2], ?_, fun k hk => ?_⟩
 ·rw [h.own.cellAt i (by omega), List.getElem?_eq_getElem hi, e2]
 ·rw [e2] at hb
  obtain ⟨b, c2, e3, -, -⟩ := own_some hb (by omega)
  simp only [Value.slice.injEq] at e3
  obtain ⟨rfl, -, rfl⟩ := e3
  refine ⟨b, bs[k]'(by omega), rfl, ?_⟩
  rw [hb.cellAt k (by omega)]
  simp [show k < bs.length by omega]
theorem own_litB9 (w : World) : (w.alloc (.cells #[] 4)).ownsRow 0 4 1 (.slice (some ⟨w.heap.size, 0, none⟩) 0 0) 0 [] :=
 World.ownsRow_lit (base := 0) (e := 4) (size := 1) w #[] 0 (Nat.zero_le _) (by unfold maxLen; omega) (by simp)
theorem own_litBB9 (w : World) : (w.alloc (.cells #[] 58)).ownsRow 0 58 1 (.slice (some ⟨w.heap.size, 0, none⟩) 0 0) 0 [] :=
 World.ownsRow_lit (base := 0) (e := 58) (size := 1) w #[] 0 (Nat.zero_le _) (by unfold maxLen; omega) (by simp)
set_option maxRecDepth 100000 in
set_option maxHeartbeats 4000000 in
theorem edges_any {csg : List Value} {g : GD} (hg : GC B w csg g) (hgr : GR g) :
  Calls Tryz.prog 60 #[.agg csg.toArray] w fun e w' => ∃ v L, e = .returned v ∧ L.length = g.x.packs.length ∧ BB w w' v g.x.packs.length L ∧ Only (fun _ => False) w w' := by
 have HH_g := Lib.hid hg
 obtain ⟨u1, u2, u3, u4, u5, rfl, r1, r2, r3, r4, r5⟩ := hg
 obtain ⟨a_g_packs, c_g_packs, rfl, g_g_packs, h_g_packs⟩ := r1.shape
 obtain ⟨n_g_packs, e1⟩ : ∃ n, g.x.packs.length = n := ⟨_, rfl⟩
 have N_g_packs := Lib.hid e1
 obtain ⟨a_g_prefs, c_g_prefs, rfl, g_g_prefs, h_g_prefs⟩ := r2.shape
 obtain ⟨n_g_prefs, e2⟩ : ∃ n, g.x.prefs.length = n := ⟨_, rfl⟩
 have N_g_prefs := Lib.hid e2
 obtain ⟨a_g_roots, c_g_roots, rfl, g_g_roots, h_g_roots⟩ := r3.shape
 obtain ⟨n_g_roots, e3⟩ : ∃ n, g.q.roots.length = n := ⟨_, rfl⟩
 have N_g_roots := Lib.hid e3
 obtain ⟨a_g_c, c_g_c, rfl, g_g_c, h_g_c⟩ := r4.shape
 obtain ⟨n_g_c, e4⟩ : ∃ n, g.c.length = n := ⟨_, rfl⟩
 have N_g_c := Lib.hid e4
 obtain ⟨a_g_off, c_g_off, rfl, g_g_off, h_g_off⟩ := r5.shape
 obtain ⟨n_g_off, e5⟩ : ∃ n, g.off.length = n := ⟨_, rfl⟩
 have N_g_off := Lib.hid e5
 rw [e1, e2, e3, e4, e5] at HH_g
 rw [e1] at r1 g_g_packs
 have RR_g_packs := Lib.hid r1
 rw [e2] at r2 g_g_prefs
 have RR_g_prefs := Lib.hid r2
 rw [e3] at r3 g_g_roots
 have RR_g_roots := Lib.hid r3
 rw [e4] at r4 g_g_c
 have RR_g_c := Lib.hid r4
 rw [e5] at r5 g_g_off
 have RR_g_off := Lib.hid r5
 rw [e1, e2, e3, e4, e5]
 clear e1 e2 e3 e4 e5 r1 r2 r3 r4 r5
 obtain ⟨W0, hW0⟩ : ∃ W0, W0 = (w.alloc (.cells #[.slice a_g_packs n_g_packs c_g_packs, .slice a_g_prefs n_g_prefs c_g_prefs, .slice a_g_roots n_g_roots c_g_roots, .slice a_g_c n_g_c c_g_c, .slice a_g_off n_g_off c_g_off] 62)) := ⟨_, rfl⟩
 have HOB : Hid (Only (fun _ => False) w W0) := by rw [hW0]; exact (Only.refl _ _).alloc _
 have HSz : Hid (W0.heap.size = w.heap.size + 1) := by rw [hW0]; simp [Hid]
 have HBox : Hid (∀ W, Only (fun _ => False) W0 W → W.cell? ⟨w.heap.size, 0, none⟩ = some (.slice a_g_packs n_g_packs c_g_packs) ∧ W.cell? ⟨w.heap.size, 1, none⟩ = some (.slice a_g_prefs n_g_prefs c_g_prefs) ∧ W.cell? ⟨w.heap.size, 2, none⟩ = some (.slice a_g_roots n_g_roots c_g_roots) ∧ W.cell? ⟨w.heap.size, 3, none⟩ = some (.slice a_g_c n_g_c c_g_c) ∧ W.cell? ⟨w.heap.size, 4, none⟩ = some (.slice a_g_off n_g_off c_g_off)) := fun W ho => by
  have b0 : W0.heap[w.heap.size]? = some (.cells #[.slice a_g_packs n_g_packs c_g_packs, .slice a_g_prefs n_g_prefs c_g_prefs, .slice a_g_roots n_g_roots c_g_roots, .slice a_g_c n_g_c c_g_c, .slice a_g_off n_g_off c_g_off] 62) := by rw [hW0]; exact alloc_at rfl
  have d0 := only_block b0 ho (fun f => f)
  exact ⟨by rw [cell_block d0]; rfl, by rw [cell_block d0]; rfl, by rw [cell_block d0]; rfl, by rw [cell_block d0]; rfl, by rw [cell_block d0]; rfl⟩
 have HK_g : Hid (∀ W, Only (fun _ => False) W0 W → GC B W [.slice a_g_packs n_g_packs c_g_packs, .slice a_g_prefs n_g_prefs c_g_prefs, .slice a_g_roots n_g_roots c_g_roots, .slice a_g_c n_g_c c_g_c, .slice a_g_off n_g_off c_g_off] g) := fun W ho => GC.keep HH_g.out (Kp.of0 (HOB.out.same ho) : Kp B w W)
 have HR_g_packs : Hid (∀ W, Only (fun _ => False) W0 W → RowT 8 PackC B W (.slice a_g_packs n_g_packs c_g_packs) g.x.packs) := fun W ho => RR_g_packs.out.keep PackC.keep (Kp.of0 (HOB.out.same ho))
 clear RR_g_packs
 have HR_g_prefs : Hid (∀ W, Only (fun _ => False) W0 W → RowT 3 PrefC B W (.slice a_g_prefs n_g_prefs c_g_prefs) g.x.prefs) := fun W ho => RR_g_prefs.out.keep PrefC.keep (Kp.of0 (HOB.out.same ho))
 clear RR_g_prefs
 have HR_g_roots : Hid (∀ W, Only (fun _ => False) W0 W → RowT 4 RootC B W (.slice a_g_roots n_g_roots c_g_roots) g.q.roots) := fun W ho => RR_g_roots.out.keep RootC.keep (Kp.of0 (HOB.out.same ho))
 clear RR_g_roots
 have HR_g_c : Hid (∀ W, Only (fun _ => False) W0 W → RowT 2 CC B W (.slice a_g_c n_g_c c_g_c) g.c) := fun W ho => RR_g_c.out.keep CC.keep (Kp.of0 (HOB.out.same ho))
 clear RR_g_c
 have HR_g_off : Hid (∀ W, Only (fun _ => False) W0 W → RowT 1 BoolC B W (.slice a_g_off n_g_off c_g_off) g.off) := fun W ho => RR_g_off.out.keep BoolC.keep (Kp.of0 (HOB.out.same ho))
 clear RR_g_off
 clear HH_g
 have hnb := hgr.ru.packs
 rw [N_g_packs.out] at hnb
 have HEd : Hid (∀ i k : Nat, i < n_g_packs → k < n_g_packs → ∀ W, Only (fun _ => False) W0 W → Calls Tryz.prog 66 #[.agg #[.slice a_g_packs n_g_packs c_g_packs, .slice a_g_prefs n_g_prefs c_g_prefs, .slice a_g_roots n_g_roots c_g_roots, .slice a_g_c n_g_c c_g_c, .slice a_g_off n_g_off c_g_off], .int .i64 (i : Int), .int .i64 (k : Int)] W fun e w' => BoolIf (AnyOn g) W w' e) := fun i k hi hk W hW => Edge_any (HK_g.out W hW) hgr i k (by omega) (by omega)
 have HOC : Hid (Only (fun _ => False) W0 (W0.alloc (.cells #[] 58))) := (Only.refl _ _).alloc _
 have HBC : Hid (BB W0 (W0.alloc (.cells #[] 58)) (.slice (some ⟨W0.heap.size, 0, none⟩) 0 0) n_g_packs []) := ⟨own_litBB9 W0, fun k hk => (by simp [Value.ownBlock] at hk; omega), fun r hr => by cases hr⟩
 clear hgr
 obtain ⟨k0, k1, k2, k3, k4⟩ := HBox.out W0 (Only.refl _ _)
 rw [HSz.out] at HBC
 rw [hW0] at k0 k1 k2 k3 k4
 go_enter Tryz.func60, Tryz.ntmps60
 go_wp2_with fail
 rw [← hW0] at k0 k1 k2 k3 k4 ⊢
 clear hW0
 clear k0 k1 k2 k3 k4
 go_loopw [3, 12] (fun vo vi wri => Hid (Only (fun _ => False) W0 wri) ∧ ∃ (i : Nat) (L : List Value), vi = .int .i64 i ∧ i ≤ n_g_packs ∧ L.length = i ∧ Hid (BB W0 wri vo n_g_packs L)) (fun _ v _ => n_g_packs - (RowKit.intOf v).toNat)
 case atStart => exact ⟨HOC, 0, [], rfl, Nat.zero_le _, rfl, HBC⟩
 case round =>
  obtain ⟨wri, rfl⟩ : ∃ W, W = wr := ⟨_, rfl⟩
  clear HOC HBC
  obtain ⟨HOi, i, L, rfl, hi, hLl, HB⟩ := hrel
  obtain ⟨k0, k1, k2, k3, k4⟩ := HBox.out wri HOi.out
  by_cases ci : i < n_g_packs
  ·obtain ⟨ao, co, rfl, -, -⟩ := own_slice HB.out.own
   have HLl := Lib.hid hLl
   rw [hLl]
   have HB' : Hid (BB W0 wri (.slice ao i co) n_g_packs L) := by have := HB.out; rw [HLl.out] at this; exact this
   clear HB
   have HB := HB'
   clear HB' hLl
   have HRC : Hid (RB wri (wri.alloc (.cells #[] 4)) (.slice (some ⟨wri.heap.size, 0, none⟩) 0 0) []) := ⟨own_litB9 wri, fun k hk => (by simp [Value.ownBlock] at hk; omega)⟩
   have HOC2 : Hid (Only (fun _ => False) wri (wri.alloc (.cells #[] 4))) := (Only.refl _ _).alloc _
   obtain ⟨m0, m1, m2, m3, m4⟩ := HBox.out (wri.alloc (.cells #[] 4)) (HOi.out.alloc _)
   go_wp2_with fail
   clear m0 m1 m2 m3 m4
   clear k0 k1 k2 k3 k4
   go_loopw [5, 20] (fun vr vk wrk => Hid (Only (fun _ => False) wri wrk) ∧ ∃ (k : Nat) (bs : List Bool), vk = .int .i64 k ∧ k ≤ n_g_packs ∧ bs.length = k ∧ Hid (RB wri wrk vr bs)) (fun _ v _ => n_g_packs - (RowKit.intOf v).toNat)
   case atStart => exact ⟨HOC2, 0, [], rfl, Nat.zero_le _, rfl, HRC⟩
   case round =>
    obtain ⟨wrk, rfl⟩ : ∃ W, W = wr := ⟨_, rfl⟩
    clear HOC2 HRC
    obtain ⟨HPk, k, bs, rfl, hk, hbl, HV⟩ := hrel
    obtain ⟨k0, k1, k2, k3, k4⟩ := HBox.out wrk (HOi.out.same HPk.out)
    by_cases ck : k < n_g_packs
    ·have ewi : IntKind.i64.wrap ((k : Int) + 1) = (k : Int) + 1 := by rw [IntKind.wrap_i64]; omega
     obtain ⟨ar, cr, hvr, -, -⟩ := own_slice HV.out.own
     rw [hbl] at hvr
     subst hvr
     have HBl := Lib.hid hbl
     clear hbl
     go_wp2_with fail
     refine (HEd.out i k ci ck wrk (HOi.out.same HPk.out)).mono ?_
     rintro e w3 ⟨b, rfl, -, O3⟩
     have HP3 := Lib.hid (HPk.out.same O3)
     have HV3 : Hid (RB wri w3 (.slice ar k cr) bs) := ⟨own_only HV.out.own O3 (fun _ _ f => f), HV.out.new⟩
     have HVo : Hid (w3.ownsRow 0 4 1 (.slice ar k cr) k (bs.map Value.bool)) := by have := HV3.out.own; rw [HBl.out] at this; exact this
     clear O3 HV k0 k1 k2 k3 k4
     go_wp2_with (at_builtin; go_must (refine wpA1 (u := .bool b) slBool9 rfl (.tmp 23) (.tmp 28) rfl rfl rfl (cell_new0 _ _ _) rfl (own_only HVo.out ((Only.refl (fun _ => False) _).alloc _) (fun _ _ f => f)) (by omega) (by decide) ?_))
     intro v' w4 r1 r2 r3
     have HV4 : Hid (RB wri w4 v' (bs ++ [b])) := RB.app (w1 := w3.alloc (.cells #[.bool b] 4)) ⟨own_only HV3.out.own ((Only.refl (fun _ => False) _).alloc _) (fun _ _ f => f), HV3.out.new⟩ (by have := HP3.out.size; simp; omega) (by rw [HBl.out]; exact r1) (by rw [HBl.out]; exact r3)
     have HP4 : Hid (Only (fun _ => False) wri w4) := (HP3.out.alloc _).trans r2 (fun k hk => .inr (HV3.out.new k hk))
     obtain ⟨g4, c4, rfl, -, -, -⟩ := r3
     clear r1 r2
     go_wp2_with fail
     go_roundw
     case rel => exact ⟨HP4, k + 1, bs ++ [b], by first | rfl | go_num, by omega, by simp; exact HBl.out, HV4⟩
     case measure => simp [RowKit.intOf] <;> omega
    ·obtain rfl : n_g_packs = k := by omega
     have ewi : IntKind.i64.wrap ((i : Int) + 1) = (i : Int) + 1 := by rw [IntKind.wrap_i64]; omega
     obtain ⟨ar, cr, hvr, -, -⟩ := own_slice HV.out.own
     rw [hbl] at hvr
     subst hvr
     have HBl := Lib.hid hbl
     have HRo : Hid (wrk.ownsRow 0 4 1 (.slice ar n_g_packs cr) n_g_packs (bs.map Value.bool)) := by have := HV.out.own; rw [HBl.out] at this; exact this
     have HB2 : Hid (BB W0 wrk (.slice ao i co) n_g_packs L) := HB.out.only0 HPk.out
     clear hbl k0 k1 k2 k3 k4
     obtain ⟨nL, hnL⟩ : ∃ m, L.length = m := ⟨_, rfl⟩
     have HBBo : Hid (wrk.ownsRow 0 58 1 (.slice ao i co) i L) := by have := HB2.out.own; rw [HLl.out] at this; exact this
     clear hnL nL
     go_wp2_with (at_builtin; go_must (refine wpA1 (u := .slice ar n_g_packs cr) slRows9 rfl (.tmp 31) (.tmp 33) rfl rfl rfl (cell_new0 _ _ _) rfl (own_only HBBo.out ((Only.refl (fun _ => False) _).alloc _) (fun _ _ f => f)) (by omega) (by decide) ?_))
     intro v' w4 r1 r2 r3
     have HB4 : Hid (BB W0 w4 v' n_g_packs (L ++ [.slice ar n_g_packs cr])) := BB.app (w1 := wrk.alloc (.cells #[.slice ar n_g_packs cr] 58)) (HB2.out.only0 ((Only.refl (fun _ => False) _).alloc _)) (by have := (HOi.out.same HPk.out).size; simp; omega) (by rw [HLl.out]; exact r1) r2 (by rw [HLl.out]; exact r3) ⟨bs, HBl.out, own_only HRo.out ((Only.refl (fun _ => False) _).alloc _) (fun _ _ f => f)⟩
     have HO4 : Hid (Only (fun _ => False) W0 w4) := ((HOi.out.same HPk.out).alloc _).trans r2 (fun k hk => .inr (HB2.out.new k hk))
     obtain ⟨g4, c4, rfl, -, -, -⟩ := r3
     clear r1 r2
     go_wp2_with fail
     go_roundw
     case rel => exact ⟨HO4, i + 1, L ++ [.slice ar n_g_packs cr], by first | rfl | go_num, by omega, by simp; exact HLl.out, HB4⟩
     case measure => simp [RowKit.intOf] <;> omega
  ·obtain rfl : n_g_packs = i := by omega
   obtain ⟨ao, co, rfl, -, -⟩ := own_slice HB.out.own
   rw [hLl]
   go_wp2_with fail
   go_ret
   refine ⟨_, L, rfl, hLl, ?_, HOB.out.same HOi.out⟩
   have h2 := HB.out
   rw [hLl] at h2
   exact ⟨h2.own, fun k hk => Nat.le_trans HOB.out.size (h2.new k hk), h2.rows⟩
set_option maxRecDepth 100000 in
set_option maxHeartbeats 4000000 in
theorem Reach_any {csg : List Value} {g : GD} (hg : GC B w csg g) (hgr : GR g) :
  Calls Tryz.prog 41 #[.agg csg.toArray] w fun e w' => ∃ v L, e = .returned v ∧ L.length = g.x.packs.length ∧ BB w w' v g.x.packs.length L ∧ Only (fun _ => False) w w' := by
 have hgr' := hgr
 have HH_g := Lib.hid hg
 obtain ⟨u1, u2, u3, u4, u5, rfl, r1, r2, r3, r4, r5⟩ := hg
 obtain ⟨a_g_packs, c_g_packs, rfl, g_g_packs, h_g_packs⟩ := r1.shape
 obtain ⟨n_g_packs, e1⟩ : ∃ n, g.x.packs.length = n := ⟨_, rfl⟩
 have N_g_packs := Lib.hid e1
 obtain ⟨a_g_prefs, c_g_prefs, rfl, g_g_prefs, h_g_prefs⟩ := r2.shape
 obtain ⟨n_g_prefs, e2⟩ : ∃ n, g.x.prefs.length = n := ⟨_, rfl⟩
 have N_g_prefs := Lib.hid e2
 obtain ⟨a_g_roots, c_g_roots, rfl, g_g_roots, h_g_roots⟩ := r3.shape
 obtain ⟨n_g_roots, e3⟩ : ∃ n, g.q.roots.length = n := ⟨_, rfl⟩
 have N_g_roots := Lib.hid e3
 obtain ⟨a_g_c, c_g_c, rfl, g_g_c, h_g_c⟩ := r4.shape
 obtain ⟨n_g_c, e4⟩ : ∃ n, g.c.length = n := ⟨_, rfl⟩
 have N_g_c := Lib.hid e4
 obtain ⟨a_g_off, c_g_off, rfl, g_g_off, h_g_off⟩ := r5.shape
 obtain ⟨n_g_off, e5⟩ : ∃ n, g.off.length = n := ⟨_, rfl⟩
 have N_g_off := Lib.hid e5
 rw [e1, e2, e3, e4, e5] at HH_g
 rw [e1] at r1 g_g_packs
 have RR_g_packs := Lib.hid r1
 rw [e2] at r2 g_g_prefs
 have RR_g_prefs := Lib.hid r2
 rw [e3] at r3 g_g_roots
 have RR_g_roots := Lib.hid r3
 rw [e4] at r4 g_g_c
 have RR_g_c := Lib.hid r4
 rw [e5] at r5 g_g_off
 have RR_g_off := Lib.hid r5
 rw [e1, e2, e3, e4, e5]
 clear e1 e2 e3 e4 e5 r1 r2 r3 r4 r5
 obtain ⟨W0, hW0⟩ : ∃ W0, W0 = (w.alloc (.cells #[.slice a_g_packs n_g_packs c_g_packs, .slice a_g_prefs n_g_prefs c_g_prefs, .slice a_g_roots n_g_roots c_g_roots, .slice a_g_c n_g_c c_g_c, .slice a_g_off n_g_off c_g_off] 62)) := ⟨_, rfl⟩
 have HOB : Hid (Only (fun _ => False) w W0) := by rw [hW0]; exact (Only.refl _ _).alloc _
 have HSz : Hid (W0.heap.size = w.heap.size + 1) := by rw [hW0]; simp [Hid]
 have HBox : Hid (∀ W, Only (fun _ => False) W0 W → W.cell? ⟨w.heap.size, 0, none⟩ = some (.slice a_g_packs n_g_packs c_g_packs) ∧ W.cell? ⟨w.heap.size, 1, none⟩ = some (.slice a_g_prefs n_g_prefs c_g_prefs) ∧ W.cell? ⟨w.heap.size, 2, none⟩ = some (.slice a_g_roots n_g_roots c_g_roots) ∧ W.cell? ⟨w.heap.size, 3, none⟩ = some (.slice a_g_c n_g_c c_g_c) ∧ W.cell? ⟨w.heap.size, 4, none⟩ = some (.slice a_g_off n_g_off c_g_off)) := fun W ho => by
  have b0 : W0.heap[w.heap.size]? = some (.cells #[.slice a_g_packs n_g_packs c_g_packs, .slice a_g_prefs n_g_prefs c_g_prefs, .slice a_g_roots n_g_roots c_g_roots, .slice a_g_c n_g_c c_g_c, .slice a_g_off n_g_off c_g_off] 62) := by rw [hW0]; exact alloc_at rfl
  have d0 := only_block b0 ho (fun f => f)
  exact ⟨by rw [cell_block d0]; rfl, by rw [cell_block d0]; rfl, by rw [cell_block d0]; rfl, by rw [cell_block d0]; rfl, by rw [cell_block d0]; rfl⟩
 have HK_g : Hid (∀ W, Only (fun _ => False) W0 W → GC B W [.slice a_g_packs n_g_packs c_g_packs, .slice a_g_prefs n_g_prefs c_g_prefs, .slice a_g_roots n_g_roots c_g_roots, .slice a_g_c n_g_c c_g_c, .slice a_g_off n_g_off c_g_off] g) := fun W ho => GC.keep HH_g.out (Kp.of0 (HOB.out.same ho) : Kp B w W)
 have HR_g_packs : Hid (∀ W, Only (fun _ => False) W0 W → RowT 8 PackC B W (.slice a_g_packs n_g_packs c_g_packs) g.x.packs) := fun W ho => RR_g_packs.out.keep PackC.keep (Kp.of0 (HOB.out.same ho))
 clear RR_g_packs
 have HR_g_prefs : Hid (∀ W, Only (fun _ => False) W0 W → RowT 3 PrefC B W (.slice a_g_prefs n_g_prefs c_g_prefs) g.x.prefs) := fun W ho => RR_g_prefs.out.keep PrefC.keep (Kp.of0 (HOB.out.same ho))
 clear RR_g_prefs
 have HR_g_roots : Hid (∀ W, Only (fun _ => False) W0 W → RowT 4 RootC B W (.slice a_g_roots n_g_roots c_g_roots) g.q.roots) := fun W ho => RR_g_roots.out.keep RootC.keep (Kp.of0 (HOB.out.same ho))
 clear RR_g_roots
 have HR_g_c : Hid (∀ W, Only (fun _ => False) W0 W → RowT 2 CC B W (.slice a_g_c n_g_c c_g_c) g.c) := fun W ho => RR_g_c.out.keep CC.keep (Kp.of0 (HOB.out.same ho))
 clear RR_g_c
 have HR_g_off : Hid (∀ W, Only (fun _ => False) W0 W → RowT 1 BoolC B W (.slice a_g_off n_g_off c_g_off) g.off) := fun W ho => RR_g_off.out.keep BoolC.keep (Kp.of0 (HOB.out.same ho))
 clear RR_g_off
 clear HH_g
 have hnb := hgr.ru.packs
 rw [N_g_packs.out] at hnb
 have HEs := Lib.hid (edges_any (HK_g.out W0 (Only.refl _ _)) hgr)
 rw [N_g_packs.out] at HEs
 clear hgr hgr'
 obtain ⟨k0, k1, k2, k3, k4⟩ := HBox.out W0 (Only.refl _ _)
 rw [hW0] at k0 k1 k2 k3 k4
 go_enter Tryz.func41, Tryz.ntmps41
 go_wp2_with fail
 rw [← hW0] at k0 k1 k2 k3 k4 ⊢
 clear hW0
 refine HEs.out.mono ?_
 rintro e w1 ⟨v, L, rfl, hLl, hB, O1⟩
 have HO1 := Lib.hid O1
 clear k0 k1 k2 k3 k4
 by_cases hz : n_g_packs = 0
 ·have HHN : Hid (n_g_packs = 0) := hz
  obtain ⟨ao, co, rfl, -, -⟩ := own_slice hB.own
  rw [hLl, hz]
  have HB := Lib.hid hB
  have HLl := Lib.hid hLl
  clear hB O1 hz hLl
  go_wp2_with fail
  go_loopw [12] (fun vn wrn => vn = .int .i64 0 ∧ wrn = w1) (fun v _ => 0)
  case atStart => exact ⟨rfl, rfl⟩
  case round =>
   obtain ⟨rfl, rfl⟩ := hrel
   go_wp2_with fail
   go_ret
   refine ⟨_, L, rfl, HLl.out, ?_, HOB.out.same HO1.out⟩
   have h2 := HB.out
   rw [HLl.out, HHN.out] at h2
   rw [HHN.out]
   exact ⟨by rw [HLl.out, HHN.out]; have := h2.own; rwa [HLl.out, HHN.out] at this, fun k hk => Nat.le_trans HOB.out.size (h2.new k hk), h2.rows⟩
 ·obtain ⟨gg, cg, rfl, -, -⟩ := own_some hB.own (by omega)
  rw [hLl] at hB ⊢
  have HB : Hid (BB W0 w1 (.slice (some ⟨gg, 0, none⟩) n_g_packs cg) n_g_packs L) := hB
  have HQC : Hid (Only (fun _ => False) W0 w1) := O1
  clear hB O1 hz HEs
  go_wp2_with fail
  go_loopw [12] (fun vn wrn => Hid (Only (fun _ => False) W0 wrn) ∧ ∃ (n : Nat) (L : List Value), vn = .int .i64 n ∧ n ≤ n_g_packs ∧ L.length = n_g_packs ∧ Hid (BB W0 wrn (.slice (some ⟨gg, 0, none⟩) n_g_packs cg) n_g_packs L)) (fun v _ => n_g_packs - (RowKit.intOf v).toNat)
  case atStart => exact ⟨HQC, 0, L, rfl, Nat.zero_le _, hLl, HB⟩
  case round =>
   obtain ⟨wrn, rfl⟩ : ∃ W, W = wr := ⟨_, rfl⟩
   clear HQC HB hLl L
   obtain ⟨HQn, n, L, rfl, hn, hLl, HB⟩ := hrel
   by_cases cn : n < n_g_packs
   ·go_wp2_with fail
    go_loopw [17] (fun vi wri => Hid (Only (fun _ => False) W0 wri) ∧ ∃ (i : Nat) (L : List Value), vi = .int .i64 i ∧ i ≤ n_g_packs ∧ L.length = n_g_packs ∧ Hid (BB W0 wri (.slice (some ⟨gg, 0, none⟩) n_g_packs cg) n_g_packs L)) (fun v _ => n_g_packs - (RowKit.intOf v).toNat)
    case atStart => exact ⟨HQn, 0, L, rfl, Nat.zero_le _, hLl, HB⟩
    case round =>
     obtain ⟨wri, rfl⟩ : ∃ W, W = wr := ⟨_, rfl⟩
     clear HQn HB hLl L
     obtain ⟨HQi, i, L, rfl, hi, hLl, HB⟩ := hrel
     by_cases ci : i < n_g_packs
     ·have HRC : Hid (RB wri (wri.alloc (.cells #[] 4)) (.slice (some ⟨wri.heap.size, 0, none⟩) 0 0) []) := ⟨own_litB9 wri, fun k hk => (by simp [Value.ownBlock] at hk; omega)⟩
      have HOC2 : Hid (Only (fun _ => False) wri (wri.alloc (.cells #[] 4))) := (Only.refl _ _).alloc _
      have HLl := Lib.hid hLl
      clear hLl
      go_wp2_with fail
      go_loopw [6, 23] (fun vr vk wrk => Hid (Only (fun _ => False) wri wrk) ∧ ∃ (k : Nat) (bs : List Bool), vk = .int .i64 k ∧ k ≤ n_g_packs ∧ bs.length = k ∧ Hid (RB wri wrk vr bs)) (fun _ v _ => n_g_packs - (RowKit.intOf v).toNat)
      case atStart => exact ⟨HOC2, 0, [], rfl, Nat.zero_le _, rfl, HRC⟩
      case round =>
       obtain ⟨wrk, rfl⟩ : ∃ W, W = wr := ⟨_, rfl⟩
       clear HOC2 HRC
       obtain ⟨HPk, k, bs, rfl, hk, hbl, HV⟩ := hrel
       by_cases ck : k < n_g_packs
       ·have ewi : IntKind.i64.wrap ((k : Int) + 1) = (k : Int) + 1 := by rw [IntKind.wrap_i64]; omega
        obtain ⟨ar, cr, hvr, -, -⟩ := own_slice HV.out.own
        rw [hbl] at hvr
        subst hvr
        have HBl := Lib.hid hbl
        have HRo : Hid (wrk.ownsRow 0 4 1 (.slice ar k cr) k (bs.map Value.bool)) := by have := HV.out.own; rw [HBl.out] at this; exact this
        have hB2 : BB W0 wrk (.slice (some ⟨gg, 0, none⟩) n_g_packs cg) n_g_packs L := HB.out.only0 HPk.out
        obtain ⟨g2, cp2, ai, ci2, e2, -, qi, fi⟩ := hB2.get (i := i) (by rw [HLl.out]; exact ci)
        obtain ⟨g3, cp3, an, cn3, e3, -, qn, fn⟩ := hB2.get (i := n) (by rw [HLl.out]; exact cn)
        rw [HLl.out] at e2 e3
        simp only [Value.slice.injEq, Option.some.injEq, Addr.mk.injEq, and_true, true_and] at e2 e3
        obtain ⟨rfl, rfl⟩ := e2
        obtain ⟨rfl, rfl⟩ := e3
        obtain ⟨b1, y1, rfl, q1⟩ := fi k ck
        obtain ⟨b2, y2, e4, q2⟩ := fi n cn
        simp only [Option.some.injEq, Addr.mk.injEq, and_true] at e4
        subst e4
        obtain ⟨b3, y3, rfl, q3⟩ := fn k ck
        clear hbl fi fn hB2
        cases y1 with
        | true =>
         go_wp2_with (at_builtin; go_must (refine wpA1 (u := .bool true) slBool9 rfl (.tmp 26) (.tmp 52) rfl rfl rfl (cell_new0 _ _ _) rfl (own_only HRo.out ((Only.refl (fun _ => False) _).alloc _) (fun _ _ f => f)) (by omega) (by decide) ?_))
         intro v' w4 r1 r2 r3
         have HV4 : Hid (RB wri w4 v' (bs ++ [true])) := RB.app (w1 := wrk.alloc (.cells #[.bool true] 4)) ⟨own_only HV.out.own ((Only.refl (fun _ => False) _).alloc _) (fun _ _ f => f), HV.out.new⟩ (by have := HPk.out.size; simp; omega) (by rw [HBl.out]; exact r1) (by rw [HBl.out]; exact r3)
         have HP4 : Hid (Only (fun _ => False) wri w4) := (HPk.out.alloc _).trans r2 (fun k hk => .inr (HV.out.new k hk))
         obtain ⟨g4, c4, rfl, -, -, -⟩ := r3
         clear r1 r2
         go_wp2_with fail
         go_roundw
         case rel => exact ⟨HP4, k + 1, bs ++ [true], by first | rfl | go_num, by omega, by simp; exact HBl.out, HV4⟩
         case measure => simp [RowKit.intOf] <;> omega
        | false =>
         cases y2 with
         | false =>
          go_wp2_with (at_builtin; go_must (refine wpA1 (u := .bool false) slBool9 rfl (.tmp 26) (.tmp 52) rfl rfl rfl (cell_new0 _ _ _) rfl (own_only HRo.out ((Only.refl (fun _ => False) _).alloc _) (fun _ _ f => f)) (by omega) (by decide) ?_))
          intro v' w4 r1 r2 r3
          have HV4 : Hid (RB wri w4 v' (bs ++ [false])) := RB.app (w1 := wrk.alloc (.cells #[.bool false] 4)) ⟨own_only HV.out.own ((Only.refl (fun _ => False) _).alloc _) (fun _ _ f => f), HV.out.new⟩ (by have := HPk.out.size; simp; omega) (by rw [HBl.out]; exact r1) (by rw [HBl.out]; exact r3)
          have HP4 : Hid (Only (fun _ => False) wri w4) := (HPk.out.alloc _).trans r2 (fun k hk => .inr (HV.out.new k hk))
          obtain ⟨g4, c4, rfl, -, -, -⟩ := r3
          clear r1 r2
          go_wp2_with fail
          go_roundw
          case rel => exact ⟨HP4, k + 1, bs ++ [false], by first | rfl | go_num, by omega, by simp; exact HBl.out, HV4⟩
          case measure => simp [RowKit.intOf] <;> omega
         | true =>
          go_wp2_with (at_builtin; go_must (refine wpA1 (u := .bool y3) slBool9 rfl (.tmp 26) (.tmp 52) rfl rfl rfl (cell_new0 _ _ _) rfl (own_only HRo.out ((Only.refl (fun _ => False) _).alloc _) (fun _ _ f => f)) (by omega) (by decide) ?_))
          intro v' w4 r1 r2 r3
          have HV4 : Hid (RB wri w4 v' (bs ++ [y3])) := RB.app (w1 := wrk.alloc (.cells #[.bool y3] 4)) ⟨own_only HV.out.own ((Only.refl (fun _ => False) _).alloc _) (fun _ _ f => f), HV.out.new⟩ (by have := HPk.out.size; simp; omega) (by rw [HBl.out]; exact r1) (by rw [HBl.out]; exact r3)
          have HP4 : Hid (Only (fun _ => False) wri w4) := (HPk.out.alloc _).trans r2 (fun k hk => .inr (HV.out.new k hk))
          obtain ⟨g4, c4, rfl, -, -, -⟩ := r3
          clear r1 r2
          go_wp2_with fail
          go_roundw
          case rel => exact ⟨HP4, k + 1, bs ++ [y3], by first | rfl | go_num, by omega, by simp; exact HBl.out, HV4⟩
          case measure => simp [RowKit.intOf] <;> omega
       ·obtain rfl : n_g_packs = k := by omega
        have ewi : IntKind.i64.wrap ((i : Int) + 1) = (i : Int) + 1 := by rw [IntKind.wrap_i64]; omega
        obtain ⟨ar, cr, hvr, -, -⟩ := own_slice HV.out.own
        rw [hbl] at hvr
        subst hvr
        have HBl := Lib.hid hbl
        have hB2 : BB W0 wrk (.slice (some ⟨gg, 0, none⟩) n_g_packs cg) n_g_packs L := HB.out.only0 HPk.out
        have hB3 := hB2.set (i := i) (r := .slice ar n_g_packs cr) ⟨bs, HBl.out, by have := HV.out.own; rw [HBl.out] at this; exact this⟩
        obtain ⟨g2, cp2, ai, ci2, e2, -, qi, -⟩ := hB2.get (i := i) (by rw [HLl.out]; exact ci)
        rw [HLl.out] at e2
        simp only [Value.slice.injEq, Option.some.injEq, Addr.mk.injEq, and_true, true_and] at e2
        obtain ⟨rfl, rfl⟩ := e2
        have HB3 := Lib.hid hB3
        have hown : wrk.ownsRow 0 58 1 (.slice (some ⟨gg, 0, none⟩) n_g_packs cg) n_g_packs L := by have := hB2.own; rwa [HLl.out] at this
        have hfr := hown.frozenAt i
        clear hown
        have HOw : Hid (Only (fun _ => False) W0 (wrk.setCell ⟨gg, i, none⟩ (.slice ar n_g_packs cr))) := (HQi.out.same HPk.out).setCell (p := ⟨gg, i, none⟩) (.inr (hB2.new gg rfl)) _
        clear hbl hB2 hB3
        go_wp2_with fail
        go_roundw
        case rel => exact ⟨HOw, i + 1, L.set i (.slice ar n_g_packs cr), by first | rfl | go_num, by omega, by simp; exact HLl.out, HB3⟩
        case measure => simp [RowKit.intOf] <;> omega
     ·obtain rfl : n_g_packs = i := by omega
      have ewi : IntKind.i64.wrap ((n : Int) + 1) = (n : Int) + 1 := by rw [IntKind.wrap_i64]; omega
      go_wp2_with fail
      go_roundw
      case rel => exact ⟨HQi, n + 1, L, by first | rfl | go_num, by omega, hLl, HB⟩
      case measure => simp [RowKit.intOf] <;> omega
   ·obtain rfl : n_g_packs = n := by omega
    go_wp2_with fail
    go_ret
    refine ⟨_, L, rfl, hLl, ⟨HB.out.own, fun k hk => Nat.le_trans HOB.out.size (HB.out.new k hk), HB.out.rows⟩, HOB.out.same HQn.out⟩
end
section
variable {w w' : World} {B : Nat}
attribute [local irreducible] wpQuiet
theorem int_dec (a b : Int) : decide (a = b) = (a == b) := by rw [Bool.eq_iff_iff]; simp
set_option maxRecDepth 100000 in
set_option maxHeartbeats 4000000 in
theorem So1_any {csg : List Value} {g : GD} (hg : GC B w csg g) (pn b d : Nat) (hb : pn ≤ 1000000 ∧ b ≤ 1000000 ∧ d ≤ 1000000) (ar : Option Addr) (nr cr : Nat) (hpr : pn < nr) (hnr : nr ≤ 1000000) :
  Calls Tryz.prog 43 #[.agg csg.toArray, .agg #[.int .u8 1, .int .i64 (pn : Int), .int .i64 (b : Int), .int .i64 (d : Int)], .slice ar nr cr] w fun e w' => e = .returned (.bool (soC g.c (1, pn, b, d))) ∧ Only (fun _ => False) w w' := by
 have HH_g := Lib.hid hg
 obtain ⟨u1, u2, u3, u4, u5, rfl, r1, r2, r3, r4, r5⟩ := hg
 obtain ⟨a_g_packs, c_g_packs, rfl, g_g_packs, h_g_packs⟩ := r1.shape
 obtain ⟨n_g_packs, e1⟩ : ∃ n, g.x.packs.length = n := ⟨_, rfl⟩
 have N_g_packs := Lib.hid e1
 obtain ⟨a_g_prefs, c_g_prefs, rfl, g_g_prefs, h_g_prefs⟩ := r2.shape
 obtain ⟨n_g_prefs, e2⟩ : ∃ n, g.x.prefs.length = n := ⟨_, rfl⟩
 have N_g_prefs := Lib.hid e2
 obtain ⟨a_g_roots, c_g_roots, rfl, g_g_roots, h_g_roots⟩ := r3.shape
 obtain ⟨n_g_roots, e3⟩ : ∃ n, g.q.roots.length = n := ⟨_, rfl⟩
 have N_g_roots := Lib.hid e3
 obtain ⟨a_g_c, c_g_c, rfl, g_g_c, h_g_c⟩ := r4.shape
 obtain ⟨n_g_c, e4⟩ : ∃ n, g.c.length = n := ⟨_, rfl⟩
 have N_g_c := Lib.hid e4
 obtain ⟨a_g_off, c_g_off, rfl, g_g_off, h_g_off⟩ := r5.shape
 obtain ⟨n_g_off, e5⟩ : ∃ n, g.off.length = n := ⟨_, rfl⟩
 have N_g_off := Lib.hid e5
 rw [e1, e2, e3, e4, e5] at HH_g
 rw [e1] at r1 g_g_packs
 have RR_g_packs := Lib.hid r1
 rw [e2] at r2 g_g_prefs
 have RR_g_prefs := Lib.hid r2
 rw [e3] at r3 g_g_roots
 have RR_g_roots := Lib.hid r3
 rw [e4] at r4 g_g_c
 have RR_g_c := Lib.hid r4
 rw [e5] at r5 g_g_off
 have RR_g_off := Lib.hid r5
 rw [e1, e2, e3, e4, e5]
 clear e1 e2 e3 e4 e5 r1 r2 r3 r4 r5
 obtain ⟨W0, hW0⟩ : ∃ W0, W0 = ((w.alloc (.cells #[.slice a_g_packs n_g_packs c_g_packs, .slice a_g_prefs n_g_prefs c_g_prefs, .slice a_g_roots n_g_roots c_g_roots, .slice a_g_c n_g_c c_g_c, .slice a_g_off n_g_off c_g_off] 62)).alloc (.cells #[.int .u8 1, .int .i64 (pn : Int), .int .i64 (b : Int), .int .i64 (d : Int)] 96)) := ⟨_, rfl⟩
 have HOB : Hid (Only (fun _ => False) w W0) := by rw [hW0]; exact ((Only.refl _ _).alloc _).alloc _
 have HSz : Hid (W0.heap.size = w.heap.size + 2) := by rw [hW0]; simp [Hid]
 have HBox : Hid (∀ W, Only (fun _ => False) W0 W → W.cell? ⟨w.heap.size, 0, none⟩ = some (.slice a_g_packs n_g_packs c_g_packs) ∧ W.cell? ⟨w.heap.size, 1, none⟩ = some (.slice a_g_prefs n_g_prefs c_g_prefs) ∧ W.cell? ⟨w.heap.size, 2, none⟩ = some (.slice a_g_roots n_g_roots c_g_roots) ∧ W.cell? ⟨w.heap.size, 3, none⟩ = some (.slice a_g_c n_g_c c_g_c) ∧ W.cell? ⟨w.heap.size, 4, none⟩ = some (.slice a_g_off n_g_off c_g_off) ∧ W.cell? ⟨w.heap.size + 1, 0, none⟩ = some (.int .u8 1) ∧ W.cell? ⟨w.heap.size + 1, 1, none⟩ = some (.int .i64 (pn : Int)) ∧ W.cell? ⟨w.heap.size + 1, 2, none⟩ = some (.int .i64 (b : Int)) ∧ W.cell? ⟨w.heap.size + 1, 3, none⟩ = some (.int .i64 (d : Int))) := fun W ho => by
  have b0 : W0.heap[w.heap.size]? = some (.cells #[.slice a_g_packs n_g_packs c_g_packs, .slice a_g_prefs n_g_prefs c_g_prefs, .slice a_g_roots n_g_roots c_g_roots, .slice a_g_c n_g_c c_g_c, .slice a_g_off n_g_off c_g_off] 62) := by rw [hW0]; exact alloc_block (alloc_at rfl) _
  have d0 := only_block b0 ho (fun f => f)
  have b1 : W0.heap[w.heap.size + 1]? = some (.cells #[.int .u8 1, .int .i64 (pn : Int), .int .i64 (b : Int), .int .i64 (d : Int)] 96) := by rw [hW0]; exact alloc_at (by simp)
  have d1 := only_block b1 ho (fun f => f)
  exact ⟨by rw [cell_block d0]; rfl, by rw [cell_block d0]; rfl, by rw [cell_block d0]; rfl, by rw [cell_block d0]; rfl, by rw [cell_block d0]; rfl, by rw [cell_block d1]; rfl, by rw [cell_block d1]; rfl, by rw [cell_block d1]; rfl, by rw [cell_block d1]; rfl⟩
 have HK_g : Hid (∀ W, Only (fun _ => False) W0 W → GC B W [.slice a_g_packs n_g_packs c_g_packs, .slice a_g_prefs n_g_prefs c_g_prefs, .slice a_g_roots n_g_roots c_g_roots, .slice a_g_c n_g_c c_g_c, .slice a_g_off n_g_off c_g_off] g) := fun W ho => GC.keep HH_g.out (Kp.of0 (HOB.out.same ho) : Kp B w W)
 have HR_g_packs : Hid (∀ W, Only (fun _ => False) W0 W → RowT 8 PackC B W (.slice a_g_packs n_g_packs c_g_packs) g.x.packs) := fun W ho => RR_g_packs.out.keep PackC.keep (Kp.of0 (HOB.out.same ho))
 clear RR_g_packs
 have HR_g_prefs : Hid (∀ W, Only (fun _ => False) W0 W → RowT 3 PrefC B W (.slice a_g_prefs n_g_prefs c_g_prefs) g.x.prefs) := fun W ho => RR_g_prefs.out.keep PrefC.keep (Kp.of0 (HOB.out.same ho))
 clear RR_g_prefs
 have HR_g_roots : Hid (∀ W, Only (fun _ => False) W0 W → RowT 4 RootC B W (.slice a_g_roots n_g_roots c_g_roots) g.q.roots) := fun W ho => RR_g_roots.out.keep RootC.keep (Kp.of0 (HOB.out.same ho))
 clear RR_g_roots
 have HR_g_c : Hid (∀ W, Only (fun _ => False) W0 W → RowT 2 CC B W (.slice a_g_c n_g_c c_g_c) g.c) := fun W ho => RR_g_c.out.keep CC.keep (Kp.of0 (HOB.out.same ho))
 clear RR_g_c
 have HR_g_off : Hid (∀ W, Only (fun _ => False) W0 W → RowT 1 BoolC B W (.slice a_g_off n_g_off c_g_off) g.off) := fun W ho => RR_g_off.out.keep BoolC.keep (Kp.of0 (HOB.out.same ho))
 clear RR_g_off
 clear HH_g
 obtain ⟨r, hr⟩ : ∃ r, soC g.c (1, pn, b, d) = r := ⟨_, rfl⟩
 rw [hr]
 have hr1 : (thereB g.c (pn : Int)) = r := hr
 obtain ⟨bT, hbT⟩ : ∃ x, thereB g.c (pn : Int) = x := ⟨_, rfl⟩
 have HTh : Hid (∀ W, Only (fun _ => False) W0 W → Calls Tryz.prog 64 #[.agg #[.slice a_g_packs n_g_packs c_g_packs, .slice a_g_prefs n_g_prefs c_g_prefs, .slice a_g_roots n_g_roots c_g_roots, .slice a_g_c n_g_c c_g_c, .slice a_g_off n_g_off c_g_off], .int .i64 (pn : Int)] W fun e w' => e = .returned (.bool bT) ∧ Only (fun _ => False) W w') := fun W hW => by rw [← hbT]; exact There_any (HK_g.out W hW) pn ⟨by omega, by omega⟩
 rw [hbT] at hr1
 clear hr
 have hr := hr1
 clear hr1
 obtain ⟨k0, k1, k2, k3, k4, k5, k6, k7, k8⟩ := HBox.out W0 (Only.refl _ _)
 rw [hW0] at k0 k1 k2 k3 k4 k5 k6 k7 k8
 go_enter Tryz.func43, Tryz.ntmps43
 go_wp2_with fail
 rw [← hW0] at k0 k1 k2 k3 k4 k5 k6 k7 k8 ⊢
 clear hW0
 refine (HTh.out W0 (Only.refl _ _)).mono ?_
 rintro e w1 ⟨rfl, O1⟩
 have HO1 := Lib.hid O1
 clear O1
 clear k0 k1 k2 k3 k4 k5 k6 k7 k8
 obtain ⟨k0, k1, k2, k3, k4, k5, k6, k7, k8⟩ := HBox.out w1 HO1.out
 cases bT with
 | false =>
  have hr' : false = r := by simpa using hr
  subst hr'
  clear hr
  go_wp2_with fail
  go_ret
  exact ⟨rfl, HOB.out.same HO1.out⟩
 | true =>
  obtain ⟨p2, e1, h2, h3⟩ := there_elim hbT
  have ep : p2 = pn := by omega
  rw [ep] at h2
  clear ep e1 h3
  rw [N_g_c.out] at h2
  clear hbT h2
  have hr' : true = r := hr
  subst hr'
  go_wp2_with fail
  go_ret
  exact ⟨rfl, HOB.out.same HO1.out⟩
set_option maxRecDepth 100000 in
set_option maxHeartbeats 4000000 in
theorem So2_any {csg : List Value} {g : GD} (hg : GC B w csg g) (pn b d : Nat) (hb : pn ≤ 1000000 ∧ b ≤ 1000000 ∧ d ≤ 1000000) (ar : Option Addr) (nr cr : Nat) (hpr : pn < nr) (hnr : nr ≤ 1000000) :
  Calls Tryz.prog 43 #[.agg csg.toArray, .agg #[.int .u8 2, .int .i64 (pn : Int), .int .i64 (b : Int), .int .i64 (d : Int)], .slice ar nr cr] w fun e w' => e = .returned (.bool (soC g.c (2, pn, b, d))) ∧ Only (fun _ => False) w w' := by
 have HH_g := Lib.hid hg
 obtain ⟨u1, u2, u3, u4, u5, rfl, r1, r2, r3, r4, r5⟩ := hg
 obtain ⟨a_g_packs, c_g_packs, rfl, g_g_packs, h_g_packs⟩ := r1.shape
 obtain ⟨n_g_packs, e1⟩ : ∃ n, g.x.packs.length = n := ⟨_, rfl⟩
 have N_g_packs := Lib.hid e1
 obtain ⟨a_g_prefs, c_g_prefs, rfl, g_g_prefs, h_g_prefs⟩ := r2.shape
 obtain ⟨n_g_prefs, e2⟩ : ∃ n, g.x.prefs.length = n := ⟨_, rfl⟩
 have N_g_prefs := Lib.hid e2
 obtain ⟨a_g_roots, c_g_roots, rfl, g_g_roots, h_g_roots⟩ := r3.shape
 obtain ⟨n_g_roots, e3⟩ : ∃ n, g.q.roots.length = n := ⟨_, rfl⟩
 have N_g_roots := Lib.hid e3
 obtain ⟨a_g_c, c_g_c, rfl, g_g_c, h_g_c⟩ := r4.shape
 obtain ⟨n_g_c, e4⟩ : ∃ n, g.c.length = n := ⟨_, rfl⟩
 have N_g_c := Lib.hid e4
 obtain ⟨a_g_off, c_g_off, rfl, g_g_off, h_g_off⟩ := r5.shape
 obtain ⟨n_g_off, e5⟩ : ∃ n, g.off.length = n := ⟨_, rfl⟩
 have N_g_off := Lib.hid e5
 rw [e1, e2, e3, e4, e5] at HH_g
 rw [e1] at r1 g_g_packs
 have RR_g_packs := Lib.hid r1
 rw [e2] at r2 g_g_prefs
 have RR_g_prefs := Lib.hid r2
 rw [e3] at r3 g_g_roots
 have RR_g_roots := Lib.hid r3
 rw [e4] at r4 g_g_c
 have RR_g_c := Lib.hid r4
 rw [e5] at r5 g_g_off
 have RR_g_off := Lib.hid r5
 rw [e1, e2, e3, e4, e5]
 clear e1 e2 e3 e4 e5 r1 r2 r3 r4 r5
 obtain ⟨W0, hW0⟩ : ∃ W0, W0 = ((w.alloc (.cells #[.slice a_g_packs n_g_packs c_g_packs, .slice a_g_prefs n_g_prefs c_g_prefs, .slice a_g_roots n_g_roots c_g_roots, .slice a_g_c n_g_c c_g_c, .slice a_g_off n_g_off c_g_off] 62)).alloc (.cells #[.int .u8 2, .int .i64 (pn : Int), .int .i64 (b : Int), .int .i64 (d : Int)] 96)) := ⟨_, rfl⟩
 have HOB : Hid (Only (fun _ => False) w W0) := by rw [hW0]; exact ((Only.refl _ _).alloc _).alloc _
 have HSz : Hid (W0.heap.size = w.heap.size + 2) := by rw [hW0]; simp [Hid]
 have HBox : Hid (∀ W, Only (fun _ => False) W0 W → W.cell? ⟨w.heap.size, 0, none⟩ = some (.slice a_g_packs n_g_packs c_g_packs) ∧ W.cell? ⟨w.heap.size, 1, none⟩ = some (.slice a_g_prefs n_g_prefs c_g_prefs) ∧ W.cell? ⟨w.heap.size, 2, none⟩ = some (.slice a_g_roots n_g_roots c_g_roots) ∧ W.cell? ⟨w.heap.size, 3, none⟩ = some (.slice a_g_c n_g_c c_g_c) ∧ W.cell? ⟨w.heap.size, 4, none⟩ = some (.slice a_g_off n_g_off c_g_off) ∧ W.cell? ⟨w.heap.size + 1, 0, none⟩ = some (.int .u8 2) ∧ W.cell? ⟨w.heap.size + 1, 1, none⟩ = some (.int .i64 (pn : Int)) ∧ W.cell? ⟨w.heap.size + 1, 2, none⟩ = some (.int .i64 (b : Int)) ∧ W.cell? ⟨w.heap.size + 1, 3, none⟩ = some (.int .i64 (d : Int))) := fun W ho => by
  have b0 : W0.heap[w.heap.size]? = some (.cells #[.slice a_g_packs n_g_packs c_g_packs, .slice a_g_prefs n_g_prefs c_g_prefs, .slice a_g_roots n_g_roots c_g_roots, .slice a_g_c n_g_c c_g_c, .slice a_g_off n_g_off c_g_off] 62) := by rw [hW0]; exact alloc_block (alloc_at rfl) _
  have d0 := only_block b0 ho (fun f => f)
  have b1 : W0.heap[w.heap.size + 1]? = some (.cells #[.int .u8 2, .int .i64 (pn : Int), .int .i64 (b : Int), .int .i64 (d : Int)] 96) := by rw [hW0]; exact alloc_at (by simp)
  have d1 := only_block b1 ho (fun f => f)
  exact ⟨by rw [cell_block d0]; rfl, by rw [cell_block d0]; rfl, by rw [cell_block d0]; rfl, by rw [cell_block d0]; rfl, by rw [cell_block d0]; rfl, by rw [cell_block d1]; rfl, by rw [cell_block d1]; rfl, by rw [cell_block d1]; rfl, by rw [cell_block d1]; rfl⟩
 have HK_g : Hid (∀ W, Only (fun _ => False) W0 W → GC B W [.slice a_g_packs n_g_packs c_g_packs, .slice a_g_prefs n_g_prefs c_g_prefs, .slice a_g_roots n_g_roots c_g_roots, .slice a_g_c n_g_c c_g_c, .slice a_g_off n_g_off c_g_off] g) := fun W ho => GC.keep HH_g.out (Kp.of0 (HOB.out.same ho) : Kp B w W)
 have HR_g_packs : Hid (∀ W, Only (fun _ => False) W0 W → RowT 8 PackC B W (.slice a_g_packs n_g_packs c_g_packs) g.x.packs) := fun W ho => RR_g_packs.out.keep PackC.keep (Kp.of0 (HOB.out.same ho))
 clear RR_g_packs
 have HR_g_prefs : Hid (∀ W, Only (fun _ => False) W0 W → RowT 3 PrefC B W (.slice a_g_prefs n_g_prefs c_g_prefs) g.x.prefs) := fun W ho => RR_g_prefs.out.keep PrefC.keep (Kp.of0 (HOB.out.same ho))
 clear RR_g_prefs
 have HR_g_roots : Hid (∀ W, Only (fun _ => False) W0 W → RowT 4 RootC B W (.slice a_g_roots n_g_roots c_g_roots) g.q.roots) := fun W ho => RR_g_roots.out.keep RootC.keep (Kp.of0 (HOB.out.same ho))
 clear RR_g_roots
 have HR_g_c : Hid (∀ W, Only (fun _ => False) W0 W → RowT 2 CC B W (.slice a_g_c n_g_c c_g_c) g.c) := fun W ho => RR_g_c.out.keep CC.keep (Kp.of0 (HOB.out.same ho))
 clear RR_g_c
 have HR_g_off : Hid (∀ W, Only (fun _ => False) W0 W → RowT 1 BoolC B W (.slice a_g_off n_g_off c_g_off) g.off) := fun W ho => RR_g_off.out.keep BoolC.keep (Kp.of0 (HOB.out.same ho))
 clear RR_g_off
 clear HH_g
 obtain ⟨r, hr⟩ : ∃ r, soC g.c (2, pn, b, d) = r := ⟨_, rfl⟩
 rw [hr]
 have hr1 : (thereB g.c (pn : Int) && decide ((g.c.getD (pn : Int).toNat default).rel = (b : Int))) = r := hr
 obtain ⟨bT, hbT⟩ : ∃ x, thereB g.c (pn : Int) = x := ⟨_, rfl⟩
 have HTh : Hid (∀ W, Only (fun _ => False) W0 W → Calls Tryz.prog 64 #[.agg #[.slice a_g_packs n_g_packs c_g_packs, .slice a_g_prefs n_g_prefs c_g_prefs, .slice a_g_roots n_g_roots c_g_roots, .slice a_g_c n_g_c c_g_c, .slice a_g_off n_g_off c_g_off], .int .i64 (pn : Int)] W fun e w' => e = .returned (.bool bT) ∧ Only (fun _ => False) W w') := fun W hW => by rw [← hbT]; exact There_any (HK_g.out W hW) pn ⟨by omega, by omega⟩
 rw [hbT] at hr1
 clear hr
 have hr := hr1
 clear hr1
 obtain ⟨k0, k1, k2, k3, k4, k5, k6, k7, k8⟩ := HBox.out W0 (Only.refl _ _)
 rw [hW0] at k0 k1 k2 k3 k4 k5 k6 k7 k8
 go_enter Tryz.func43, Tryz.ntmps43
 go_wp2_with fail
 rw [← hW0] at k0 k1 k2 k3 k4 k5 k6 k7 k8 ⊢
 clear hW0
 refine (HTh.out W0 (Only.refl _ _)).mono ?_
 rintro e w1 ⟨rfl, O1⟩
 have HO1 := Lib.hid O1
 clear O1
 clear k0 k1 k2 k3 k4 k5 k6 k7 k8
 obtain ⟨k0, k1, k2, k3, k4, k5, k6, k7, k8⟩ := HBox.out w1 HO1.out
 cases bT with
 | false =>
  have hr' : false = r := by simpa using hr
  subst hr'
  clear hr
  go_wp2_with fail
  go_ret
  exact ⟨rfl, HOB.out.same HO1.out⟩
 | true =>
  obtain ⟨p2, e1, h2, h3⟩ := there_elim hbT
  have ep : p2 = pn := by omega
  rw [ep] at h2
  clear ep e1 h3
  rw [N_g_c.out] at h2
  obtain ⟨yc, hxc⟩ : ∃ y, g.c[pn]? = some y := ⟨_, List.getElem?_eq_getElem (by rw [N_g_c.out]; omega)⟩
  obtain ⟨bkc, offc, ac1, nc1, cc1, hec, N0c1, inc1, HE0c⟩ := CC_at (HR_g_c.out W0 (Only.refl _ _)) hxc
  first
   | subst hec
   | (simp only [Option.some.injEq, Addr.mk.injEq, and_true] at hec; obtain ⟨rfl, rfl⟩ := hec)
  have Nc1 := Lib.hid N0c1
  have HEc := Lib.hid HE0c
  have HXc := Lib.hid hxc
  clear HE0c hxc N0c1
  have HRc1 : Hid (∀ W, Only (fun _ => False) W0 W → RowT 1 IntC B W (.slice ac1 nc1 cc1) yc.vals) := fun W ho => (HEc.out W ho).2.1
  have HCc : Hid (∀ W, Only (fun _ => False) W0 W → CC B W [.int .i64 yc.rel, .slice ac1 nc1 cc1] yc) := fun W ho => (HEc.out W ho).2.2
  have hd : g.c.getD pn default = yc := by rw [List.getD_eq_getElem?_getD, HXc.out]; rfl
  rw [Int.toNat_natCast, hd] at hr
  clear hbT hd
  rw [Bool.true_and, int_dec] at hr
  have eqb : ((yc.rel : Int) == (b : Int)) = r := hr
  clear hr
  go_wp2_with fail
  clear k0 k1 k2 k3 k4 k5 k6 k7 k8
  refine wp_region_Q (fun w' => Only (fun _ => False) W0 w') (by kernel_rfl) (by kernel_rfl) (by exact (HO1.out).drew) ?_
  refine wpQ_val (v := ?_) (by rfl) ?_ ?_
  rotate_left
  ·(intro w hSw; (try dsimp only at hSw); go_simp <;> (try with_reducible rfl))
  try simp only [Act.put, zq4, zq5, zq6]
  refine wpQ_val (v := ?_) (by rfl) ?_ ?_
  rotate_left
  ·(intro w hSw; (try dsimp only at hSw); obtain ⟨k0, k1, k2, k3, k4, k5, k6, k7, k8⟩ := HBox.out w hSw; have hrc := (HEc.out w hSw).1; have gc0 := hrc 0 _ rfl; rw [Nat.add_zero] at gc0; clear hrc; go_simp <;> (try with_reducible rfl))
  try simp only [Act.put, zq4, zq5, zq6]
  refine wpQ_val (v := ?_) (by rfl) ?_ ?_
  rotate_left
  ·(intro w hSw; (try dsimp only at hSw); go_simp <;> (try with_reducible rfl))
  try simp only [Act.put, zq4, zq5, zq6]
  refine wpQ_val (v := ?_) (by rfl) ?_ ?_
  rotate_left
  ·(intro w hSw; (try dsimp only at hSw); obtain ⟨k0, k1, k2, k3, k4, k5, k6, k7, k8⟩ := HBox.out w hSw; have hrc := (HEc.out w hSw).1; have gc0 := hrc 0 _ rfl; rw [Nat.add_zero] at gc0; clear hrc; go_simp <;> (try with_reducible rfl))
  try simp only [Act.put, zq4, zq5, zq6]
  refine wpQ_val (v := ?_) (by rfl) ?_ ?_
  rotate_left
  ·(intro w hSw; (try dsimp only at hSw); go_simp <;> (try with_reducible rfl))
  try simp only [Act.put, zq4, zq5, zq6]
  refine wpQ_val (v := ?_) (by rfl) ?_ ?_
  rotate_left
  ·(intro w hSw; (try dsimp only at hSw); go_simp <;> (try with_reducible rfl))
  try simp only [Act.put, zq4, zq5, zq6]
  refine wpQ_val (v := ?_) (by rfl) ?_ ?_
  rotate_left
  ·(intro w hSw; (try dsimp only at hSw); obtain ⟨k0, k1, k2, k3, k4, k5, k6, k7, k8⟩ := HBox.out w hSw; have hrc := (HEc.out w hSw).1; have gc0 := hrc 0 _ rfl; rw [Nat.add_zero] at gc0; clear hrc; go_simp <;> (try with_reducible rfl))
  try simp only [Act.put, zq4, zq5, zq6]
  refine wpQ_val (v := ?_) (by rfl) ?_ ?_
  rotate_left
  ·(intro w hSw; (try dsimp only at hSw); go_simp <;> (try with_reducible rfl))
  try simp only [Act.put, zq4, zq5, zq6]
  refine wpQ_val (v := ?_) (by rfl) ?_ ?_
  rotate_left
  ·(intro w hSw; (try dsimp only at hSw); obtain ⟨k0, k1, k2, k3, k4, k5, k6, k7, k8⟩ := HBox.out w hSw; have hrc := (HEc.out w hSw).1; have gc0 := hrc 0 _ rfl; rw [Nat.add_zero] at gc0; clear hrc; go_simp <;> (try with_reducible rfl))
  try simp only [Act.put, zq4, zq5, zq6]
  refine wpQ_val (v := ?_) (by rfl) ?_ ?_
  rotate_left
  ·(intro w hSw; (try dsimp only at hSw); go_simp <;> (try with_reducible rfl))
  try simp only [Act.put, zq4, zq5, zq6]
  refine wpQ_val (v := ?_) (by rfl) ?_ ?_
  rotate_left
  ·(intro w hSw; (try dsimp only at hSw); go_simp <;> (try with_reducible rfl))
  try simp only [Act.put, zq4, zq5, zq6]
  refine wpQuiet_nil ?_
  (intro w9 hw9; have HO9 := Lib.hid hw9; clear hw9)
  go_wp2_with fail
  go_ret
  exact ⟨rfl, HOB.out.same HO9.out⟩
set_option maxRecDepth 100000 in
set_option maxHeartbeats 4000000 in
theorem So3_any {csg : List Value} {g : GD} (hg : GC B w csg g) (pn b d : Nat) (hb : pn ≤ 1000000 ∧ b ≤ 1000000 ∧ d ≤ 1000000) (ar : Option Addr) (nr cr : Nat) (hpr : pn < nr) (hnr : nr ≤ 1000000) :
  Calls Tryz.prog 43 #[.agg csg.toArray, .agg #[.int .u8 3, .int .i64 (pn : Int), .int .i64 (b : Int), .int .i64 (d : Int)], .slice ar nr cr] w fun e w' => e = .returned (.bool (soC g.c (3, pn, b, d))) ∧ Only (fun _ => False) w w' := by
 have HH_g := Lib.hid hg
 obtain ⟨u1, u2, u3, u4, u5, rfl, r1, r2, r3, r4, r5⟩ := hg
 obtain ⟨a_g_packs, c_g_packs, rfl, g_g_packs, h_g_packs⟩ := r1.shape
 obtain ⟨n_g_packs, e1⟩ : ∃ n, g.x.packs.length = n := ⟨_, rfl⟩
 have N_g_packs := Lib.hid e1
 obtain ⟨a_g_prefs, c_g_prefs, rfl, g_g_prefs, h_g_prefs⟩ := r2.shape
 obtain ⟨n_g_prefs, e2⟩ : ∃ n, g.x.prefs.length = n := ⟨_, rfl⟩
 have N_g_prefs := Lib.hid e2
 obtain ⟨a_g_roots, c_g_roots, rfl, g_g_roots, h_g_roots⟩ := r3.shape
 obtain ⟨n_g_roots, e3⟩ : ∃ n, g.q.roots.length = n := ⟨_, rfl⟩
 have N_g_roots := Lib.hid e3
 obtain ⟨a_g_c, c_g_c, rfl, g_g_c, h_g_c⟩ := r4.shape
 obtain ⟨n_g_c, e4⟩ : ∃ n, g.c.length = n := ⟨_, rfl⟩
 have N_g_c := Lib.hid e4
 obtain ⟨a_g_off, c_g_off, rfl, g_g_off, h_g_off⟩ := r5.shape
 obtain ⟨n_g_off, e5⟩ : ∃ n, g.off.length = n := ⟨_, rfl⟩
 have N_g_off := Lib.hid e5
 rw [e1, e2, e3, e4, e5] at HH_g
 rw [e1] at r1 g_g_packs
 have RR_g_packs := Lib.hid r1
 rw [e2] at r2 g_g_prefs
 have RR_g_prefs := Lib.hid r2
 rw [e3] at r3 g_g_roots
 have RR_g_roots := Lib.hid r3
 rw [e4] at r4 g_g_c
 have RR_g_c := Lib.hid r4
 rw [e5] at r5 g_g_off
 have RR_g_off := Lib.hid r5
 rw [e1, e2, e3, e4, e5]
 clear e1 e2 e3 e4 e5 r1 r2 r3 r4 r5
 obtain ⟨W0, hW0⟩ : ∃ W0, W0 = ((w.alloc (.cells #[.slice a_g_packs n_g_packs c_g_packs, .slice a_g_prefs n_g_prefs c_g_prefs, .slice a_g_roots n_g_roots c_g_roots, .slice a_g_c n_g_c c_g_c, .slice a_g_off n_g_off c_g_off] 62)).alloc (.cells #[.int .u8 3, .int .i64 (pn : Int), .int .i64 (b : Int), .int .i64 (d : Int)] 96)) := ⟨_, rfl⟩
 have HOB : Hid (Only (fun _ => False) w W0) := by rw [hW0]; exact ((Only.refl _ _).alloc _).alloc _
 have HSz : Hid (W0.heap.size = w.heap.size + 2) := by rw [hW0]; simp [Hid]
 have HBox : Hid (∀ W, Only (fun _ => False) W0 W → W.cell? ⟨w.heap.size, 0, none⟩ = some (.slice a_g_packs n_g_packs c_g_packs) ∧ W.cell? ⟨w.heap.size, 1, none⟩ = some (.slice a_g_prefs n_g_prefs c_g_prefs) ∧ W.cell? ⟨w.heap.size, 2, none⟩ = some (.slice a_g_roots n_g_roots c_g_roots) ∧ W.cell? ⟨w.heap.size, 3, none⟩ = some (.slice a_g_c n_g_c c_g_c) ∧ W.cell? ⟨w.heap.size, 4, none⟩ = some (.slice a_g_off n_g_off c_g_off) ∧ W.cell? ⟨w.heap.size + 1, 0, none⟩ = some (.int .u8 3) ∧ W.cell? ⟨w.heap.size + 1, 1, none⟩ = some (.int .i64 (pn : Int)) ∧ W.cell? ⟨w.heap.size + 1, 2, none⟩ = some (.int .i64 (b : Int)) ∧ W.cell? ⟨w.heap.size + 1, 3, none⟩ = some (.int .i64 (d : Int))) := fun W ho => by
  have b0 : W0.heap[w.heap.size]? = some (.cells #[.slice a_g_packs n_g_packs c_g_packs, .slice a_g_prefs n_g_prefs c_g_prefs, .slice a_g_roots n_g_roots c_g_roots, .slice a_g_c n_g_c c_g_c, .slice a_g_off n_g_off c_g_off] 62) := by rw [hW0]; exact alloc_block (alloc_at rfl) _
  have d0 := only_block b0 ho (fun f => f)
  have b1 : W0.heap[w.heap.size + 1]? = some (.cells #[.int .u8 3, .int .i64 (pn : Int), .int .i64 (b : Int), .int .i64 (d : Int)] 96) := by rw [hW0]; exact alloc_at (by simp)
  have d1 := only_block b1 ho (fun f => f)
  exact ⟨by rw [cell_block d0]; rfl, by rw [cell_block d0]; rfl, by rw [cell_block d0]; rfl, by rw [cell_block d0]; rfl, by rw [cell_block d0]; rfl, by rw [cell_block d1]; rfl, by rw [cell_block d1]; rfl, by rw [cell_block d1]; rfl, by rw [cell_block d1]; rfl⟩
 have HK_g : Hid (∀ W, Only (fun _ => False) W0 W → GC B W [.slice a_g_packs n_g_packs c_g_packs, .slice a_g_prefs n_g_prefs c_g_prefs, .slice a_g_roots n_g_roots c_g_roots, .slice a_g_c n_g_c c_g_c, .slice a_g_off n_g_off c_g_off] g) := fun W ho => GC.keep HH_g.out (Kp.of0 (HOB.out.same ho) : Kp B w W)
 have HR_g_packs : Hid (∀ W, Only (fun _ => False) W0 W → RowT 8 PackC B W (.slice a_g_packs n_g_packs c_g_packs) g.x.packs) := fun W ho => RR_g_packs.out.keep PackC.keep (Kp.of0 (HOB.out.same ho))
 clear RR_g_packs
 have HR_g_prefs : Hid (∀ W, Only (fun _ => False) W0 W → RowT 3 PrefC B W (.slice a_g_prefs n_g_prefs c_g_prefs) g.x.prefs) := fun W ho => RR_g_prefs.out.keep PrefC.keep (Kp.of0 (HOB.out.same ho))
 clear RR_g_prefs
 have HR_g_roots : Hid (∀ W, Only (fun _ => False) W0 W → RowT 4 RootC B W (.slice a_g_roots n_g_roots c_g_roots) g.q.roots) := fun W ho => RR_g_roots.out.keep RootC.keep (Kp.of0 (HOB.out.same ho))
 clear RR_g_roots
 have HR_g_c : Hid (∀ W, Only (fun _ => False) W0 W → RowT 2 CC B W (.slice a_g_c n_g_c c_g_c) g.c) := fun W ho => RR_g_c.out.keep CC.keep (Kp.of0 (HOB.out.same ho))
 clear RR_g_c
 have HR_g_off : Hid (∀ W, Only (fun _ => False) W0 W → RowT 1 BoolC B W (.slice a_g_off n_g_off c_g_off) g.off) := fun W ho => RR_g_off.out.keep BoolC.keep (Kp.of0 (HOB.out.same ho))
 clear RR_g_off
 clear HH_g
 obtain ⟨r, hr⟩ : ∃ r, soC g.c (3, pn, b, d) = r := ⟨_, rfl⟩
 rw [hr]
 have hr1 : (thereB g.c (pn : Int) && decide ((b : Int) < (g.c.getD (pn : Int).toNat default).vals.length) && decide ((g.c.getD (pn : Int).toNat default).vals.getD (b : Int).toNat 0 = (d : Int))) = r := hr
 obtain ⟨bT, hbT⟩ : ∃ x, thereB g.c (pn : Int) = x := ⟨_, rfl⟩
 have HTh : Hid (∀ W, Only (fun _ => False) W0 W → Calls Tryz.prog 64 #[.agg #[.slice a_g_packs n_g_packs c_g_packs, .slice a_g_prefs n_g_prefs c_g_prefs, .slice a_g_roots n_g_roots c_g_roots, .slice a_g_c n_g_c c_g_c, .slice a_g_off n_g_off c_g_off], .int .i64 (pn : Int)] W fun e w' => e = .returned (.bool bT) ∧ Only (fun _ => False) W w') := fun W hW => by rw [← hbT]; exact There_any (HK_g.out W hW) pn ⟨by omega, by omega⟩
 rw [hbT] at hr1
 clear hr
 have hr := hr1
 clear hr1
 obtain ⟨k0, k1, k2, k3, k4, k5, k6, k7, k8⟩ := HBox.out W0 (Only.refl _ _)
 rw [hW0] at k0 k1 k2 k3 k4 k5 k6 k7 k8
 go_enter Tryz.func43, Tryz.ntmps43
 go_wp2_with fail
 rw [← hW0] at k0 k1 k2 k3 k4 k5 k6 k7 k8 ⊢
 clear hW0
 refine (HTh.out W0 (Only.refl _ _)).mono ?_
 rintro e w1 ⟨rfl, O1⟩
 have HO1 := Lib.hid O1
 clear O1
 clear k0 k1 k2 k3 k4 k5 k6 k7 k8
 obtain ⟨k0, k1, k2, k3, k4, k5, k6, k7, k8⟩ := HBox.out w1 HO1.out
 cases bT with
 | false =>
  have hr' : false = r := by simpa using hr
  subst hr'
  clear hr
  go_wp2_with fail
  go_ret
  exact ⟨rfl, HOB.out.same HO1.out⟩
 | true =>
  obtain ⟨p2, e1, h2, h3⟩ := there_elim hbT
  have ep : p2 = pn := by omega
  rw [ep] at h2
  clear ep e1 h3
  rw [N_g_c.out] at h2
  obtain ⟨yc, hxc⟩ : ∃ y, g.c[pn]? = some y := ⟨_, List.getElem?_eq_getElem (by rw [N_g_c.out]; omega)⟩
  obtain ⟨bkc, offc, ac1, nc1, cc1, hec, N0c1, inc1, HE0c⟩ := CC_at (HR_g_c.out W0 (Only.refl _ _)) hxc
  first
   | subst hec
   | (simp only [Option.some.injEq, Addr.mk.injEq, and_true] at hec; obtain ⟨rfl, rfl⟩ := hec)
  have Nc1 := Lib.hid N0c1
  have HEc := Lib.hid HE0c
  have HXc := Lib.hid hxc
  clear HE0c hxc N0c1
  have HRc1 : Hid (∀ W, Only (fun _ => False) W0 W → RowT 1 IntC B W (.slice ac1 nc1 cc1) yc.vals) := fun W ho => (HEc.out W ho).2.1
  have HCc : Hid (∀ W, Only (fun _ => False) W0 W → CC B W [.int .i64 yc.rel, .slice ac1 nc1 cc1] yc) := fun W ho => (HEc.out W ho).2.2
  have hd : g.c.getD pn default = yc := by rw [List.getD_eq_getElem?_getD, HXc.out]; rfl
  rw [Int.toNat_natCast, hd] at hr
  clear hbT hd
  by_cases cb : b < nc1
  ·obtain ⟨v, hv⟩ : ∃ v, yc.vals[b]? = some v := ⟨_, List.getElem?_eq_getElem (by rw [Nc1.out]; exact cb)⟩
   obtain ⟨biv, oiv, eiv, -, hIv⟩ := IntC_at (HRc1.out W0 (Only.refl _ _)) hv
   subst eiv
   have HIv := Lib.hid hIv
   rw [Nc1.out, decide_eq_true (show (b : Int) < (nc1 : Int) by omega), Bool.true_and, Bool.true_and, Int.toNat_natCast, List.getD_eq_getElem?_getD, hv, int_dec] at hr
   have eqb : ((v : Int) == (d : Int)) = r := hr
   clear hr hIv hv
   go_wp2_with fail
   clear k0 k1 k2 k3 k4 k5 k6 k7 k8
   refine wp_region_Q (fun w' => Only (fun _ => False) W0 w') (by kernel_rfl) (by kernel_rfl) (by exact (HO1.out).drew) ?_
   refine wpQ_val (v := ?_) (by rfl) ?_ ?_
   rotate_left
   ·(intro w hSw; (try dsimp only at hSw); go_simp <;> (try with_reducible rfl))
   try simp only [Act.put, zq4, zq5, zq6]
   refine wpQ_val (v := ?_) (by rfl) ?_ ?_
   rotate_left
   ·(intro w hSw; (try dsimp only at hSw); obtain ⟨k0, k1, k2, k3, k4, k5, k6, k7, k8⟩ := HBox.out w hSw; have hrc := (HEc.out w hSw).1; have gc1 := hrc 1 _ rfl; clear hrc; have gv := HIv.out w hSw; go_simp <;> (try with_reducible rfl))
   try simp only [Act.put, zq4, zq5, zq6]
   refine wpQ_val (v := ?_) (by rfl) ?_ ?_
   rotate_left
   ·(intro w hSw; (try dsimp only at hSw); go_simp <;> (try with_reducible rfl))
   try simp only [Act.put, zq4, zq5, zq6]
   refine wpQ_val (v := ?_) (by rfl) ?_ ?_
   rotate_left
   ·(intro w hSw; (try dsimp only at hSw); obtain ⟨k0, k1, k2, k3, k4, k5, k6, k7, k8⟩ := HBox.out w hSw; have hrc := (HEc.out w hSw).1; have gc1 := hrc 1 _ rfl; clear hrc; have gv := HIv.out w hSw; go_simp <;> (try with_reducible rfl))
   try simp only [Act.put, zq4, zq5, zq6]
   refine wpQ_val (v := ?_) (by rfl) ?_ ?_
   rotate_left
   ·(intro w hSw; (try dsimp only at hSw); go_simp <;> (try with_reducible rfl))
   try simp only [Act.put, zq4, zq5, zq6]
   refine wpQ_val (v := ?_) (by rfl) ?_ ?_
   rotate_left
   ·(intro w hSw; (try dsimp only at hSw); obtain ⟨k0, k1, k2, k3, k4, k5, k6, k7, k8⟩ := HBox.out w hSw; have hrc := (HEc.out w hSw).1; have gc1 := hrc 1 _ rfl; clear hrc; have gv := HIv.out w hSw; go_simp <;> (try with_reducible rfl))
   try simp only [Act.put, zq4, zq5, zq6]
   refine wpQ_val (v := ?_) (by rfl) ?_ ?_
   rotate_left
   ·(intro w hSw; (try dsimp only at hSw); go_simp <;> (try with_reducible rfl))
   try simp only [Act.put, zq4, zq5, zq6]
   refine wpQ_val (v := ?_) (by rfl) ?_ ?_
   rotate_left
   ·(intro w hSw; (try dsimp only at hSw); go_simp <;> (try with_reducible rfl))
   try simp only [Act.put, zq4, zq5, zq6]
   refine wpQ_val (v := ?_) (by rfl) ?_ ?_
   rotate_left
   ·(intro w hSw; (try dsimp only at hSw); obtain ⟨k0, k1, k2, k3, k4, k5, k6, k7, k8⟩ := HBox.out w hSw; have hrc := (HEc.out w hSw).1; have gc1 := hrc 1 _ rfl; clear hrc; have gv := HIv.out w hSw; go_simp <;> (try with_reducible rfl))
   try simp only [Act.put, zq4, zq5, zq6]
   refine wpQ_val (v := ?_) (by rfl) ?_ ?_
   rotate_left
   ·(intro w hSw; (try dsimp only at hSw); go_simp <;> (try with_reducible rfl))
   try simp only [Act.put, zq4, zq5, zq6]
   refine wpQ_val (v := ?_) (by rfl) ?_ ?_
   rotate_left
   ·(intro w hSw; (try dsimp only at hSw); go_simp <;> (try with_reducible rfl))
   try simp only [Act.put, zq4, zq5, zq6]
   refine wpQ_val (v := ?_) (by rfl) ?_ ?_
   rotate_left
   ·(intro w hSw; (try dsimp only at hSw); go_simp <;> (try with_reducible rfl))
   try simp only [Act.put, zq4, zq5, zq6]
   refine wpQ_val (v := ?_) (by rfl) ?_ ?_
   rotate_left
   ·(intro w hSw; (try dsimp only at hSw); go_simp <;> (try with_reducible rfl))
   try simp only [Act.put, zq4, zq5, zq6]
   refine wpQ_val (v := ?_) (by rfl) ?_ ?_
   rotate_left
   ·(intro w hSw; (try dsimp only at hSw); obtain ⟨k0, k1, k2, k3, k4, k5, k6, k7, k8⟩ := HBox.out w hSw; have hrc := (HEc.out w hSw).1; have gc1 := hrc 1 _ rfl; clear hrc; have gv := HIv.out w hSw; go_simp <;> (try with_reducible rfl))
   try simp only [Act.put, zq4, zq5, zq6]
   refine wpQ_val (v := ?_) (by rfl) ?_ ?_
   rotate_left
   ·(intro w hSw; (try dsimp only at hSw); go_simp <;> (try with_reducible rfl))
   try simp only [Act.put, zq4, zq5, zq6]
   refine wpQ_val (v := ?_) (by rfl) ?_ ?_
   rotate_left
   ·(intro w hSw; (try dsimp only at hSw); obtain ⟨k0, k1, k2, k3, k4, k5, k6, k7, k8⟩ := HBox.out w hSw; have hrc := (HEc.out w hSw).1; have gc1 := hrc 1 _ rfl; clear hrc; have gv := HIv.out w hSw; go_simp <;> (try with_reducible rfl))
   try simp only [Act.put, zq4, zq5, zq6]
   refine wpQ_val (v := ?_) (by rfl) ?_ ?_
   rotate_left
   ·(intro w hSw; (try dsimp only at hSw); go_simp <;> (try with_reducible rfl))
   try simp only [Act.put, zq4, zq5, zq6]
   refine wpQ_val (v := ?_) (by rfl) ?_ ?_
   rotate_left
   ·(intro w hSw; (try dsimp only at hSw); go_simp <;> (try with_reducible rfl))
   try simp only [Act.put, zq4, zq5, zq6]
   refine wpQ_val (v := ?_) (by rfl) ?_ ?_
   rotate_left
   ·(intro w hSw; (try dsimp only at hSw); obtain ⟨k0, k1, k2, k3, k4, k5, k6, k7, k8⟩ := HBox.out w hSw; have hrc := (HEc.out w hSw).1; have gc1 := hrc 1 _ rfl; clear hrc; have gv := HIv.out w hSw; go_simp <;> (try with_reducible rfl))
   try simp only [Act.put, zq4, zq5, zq6]
   refine wpQ_val (v := ?_) (by rfl) ?_ ?_
   rotate_left
   ·(intro w hSw; (try dsimp only at hSw); go_simp <;> (try with_reducible rfl))
   try simp only [Act.put, zq4, zq5, zq6]
   refine wpQ_val (v := ?_) (by rfl) ?_ ?_
   rotate_left
   ·(intro w hSw; (try dsimp only at hSw); obtain ⟨k0, k1, k2, k3, k4, k5, k6, k7, k8⟩ := HBox.out w hSw; have hrc := (HEc.out w hSw).1; have gc1 := hrc 1 _ rfl; clear hrc; have gv := HIv.out w hSw; go_simp <;> (try with_reducible rfl))
   try simp only [Act.put, zq4, zq5, zq6]
   refine wpQ_val (v := ?_) (by rfl) ?_ ?_
   rotate_left
   ·(intro w hSw; (try dsimp only at hSw); go_simp <;> (try with_reducible rfl))
   try simp only [Act.put, zq4, zq5, zq6]
   refine wpQ_val (v := ?_) (by rfl) ?_ ?_
   rotate_left
   ·(intro w hSw; (try dsimp only at hSw); obtain ⟨k0, k1, k2, k3, k4, k5, k6, k7, k8⟩ := HBox.out w hSw; have hrc := (HEc.out w hSw).1; have gc1 := hrc 1 _ rfl; clear hrc; have gv := HIv.out w hSw; go_simp <;> (try with_reducible rfl))
   try simp only [Act.put, zq4, zq5, zq6]
   refine wpQ_val (v := ?_) (by rfl) ?_ ?_
   rotate_left
   ·(intro w hSw; (try dsimp only at hSw); go_simp <;> (try with_reducible rfl))
   try simp only [Act.put, zq4, zq5, zq6]
   refine wpQ_val (v := ?_) (by rfl) ?_ ?_
   rotate_left
   ·(intro w hSw; (try dsimp only at hSw); obtain ⟨k0, k1, k2, k3, k4, k5, k6, k7, k8⟩ := HBox.out w hSw; have hrc := (HEc.out w hSw).1; have gc1 := hrc 1 _ rfl; clear hrc; have gv := HIv.out w hSw; go_simp <;> (try with_reducible rfl))
   try simp only [Act.put, zq4, zq5, zq6]
   refine wpQ_val (v := ?_) (by rfl) ?_ ?_
   rotate_left
   ·(intro w hSw; (try dsimp only at hSw); go_simp <;> (try with_reducible rfl))
   try simp only [Act.put, zq4, zq5, zq6]
   refine wpQ_val (v := ?_) (by rfl) ?_ ?_
   rotate_left
   ·(intro w hSw; (try dsimp only at hSw); go_simp <;> (try with_reducible rfl))
   try simp only [Act.put, zq4, zq5, zq6]
   refine wpQ_val (v := ?_) (by rfl) ?_ ?_
   rotate_left
   ·(intro w hSw; (try dsimp only at hSw); go_simp <;> (try with_reducible rfl))
   try simp only [Act.put, zq4, zq5, zq6]
   refine wpQuiet_nil ?_
   (intro w9 hw9; have HO9 := Lib.hid hw9; clear hw9)
   go_wp2_with fail
   go_ret
   exact ⟨rfl, HOB.out.same HO9.out⟩
  ·rw [Nc1.out, decide_eq_false (show ¬ (b : Int) < (nc1 : Int) by omega), Bool.and_false, Bool.false_and] at hr
   subst hr
   go_wp2_with fail
   clear k0 k1 k2 k3 k4 k5 k6 k7 k8
   refine wp_region_Q (fun w' => Only (fun _ => False) W0 w') (by kernel_rfl) (by kernel_rfl) (by exact (HO1.out).drew) ?_
   refine wpQ_val (v := ?_) (by rfl) ?_ ?_
   rotate_left
   ·(intro w hSw; (try dsimp only at hSw); go_simp <;> (try with_reducible rfl))
   try simp only [Act.put, zq4, zq5, zq6]
   refine wpQ_val (v := ?_) (by rfl) ?_ ?_
   rotate_left
   ·(intro w hSw; (try dsimp only at hSw); obtain ⟨k0, k1, k2, k3, k4, k5, k6, k7, k8⟩ := HBox.out w hSw; have hrc := (HEc.out w hSw).1; have gc1 := hrc 1 _ rfl; clear hrc; go_simp <;> (try with_reducible rfl))
   try simp only [Act.put, zq4, zq5, zq6]
   refine wpQ_val (v := ?_) (by rfl) ?_ ?_
   rotate_left
   ·(intro w hSw; (try dsimp only at hSw); go_simp <;> (try with_reducible rfl))
   try simp only [Act.put, zq4, zq5, zq6]
   refine wpQ_val (v := ?_) (by rfl) ?_ ?_
   rotate_left
   ·(intro w hSw; (try dsimp only at hSw); obtain ⟨k0, k1, k2, k3, k4, k5, k6, k7, k8⟩ := HBox.out w hSw; have hrc := (HEc.out w hSw).1; have gc1 := hrc 1 _ rfl; clear hrc; go_simp <;> (try with_reducible rfl))
   try simp only [Act.put, zq4, zq5, zq6]
   refine wpQ_val (v := ?_) (by rfl) ?_ ?_
   rotate_left
   ·(intro w hSw; (try dsimp only at hSw); go_simp <;> (try with_reducible rfl))
   try simp only [Act.put, zq4, zq5, zq6]
   refine wpQ_val (v := ?_) (by rfl) ?_ ?_
   rotate_left
   ·(intro w hSw; (try dsimp only at hSw); obtain ⟨k0, k1, k2, k3, k4, k5, k6, k7, k8⟩ := HBox.out w hSw; have hrc := (HEc.out w hSw).1; have gc1 := hrc 1 _ rfl; clear hrc; go_simp <;> (try with_reducible rfl))
   try simp only [Act.put, zq4, zq5, zq6]
   refine wpQ_val (v := ?_) (by rfl) ?_ ?_
   rotate_left
   ·(intro w hSw; (try dsimp only at hSw); go_simp <;> (try with_reducible rfl))
   try simp only [Act.put, zq4, zq5, zq6]
   refine wpQ_val (v := ?_) (by rfl) ?_ ?_
   rotate_left
   ·(intro w hSw; (try dsimp only at hSw); go_simp <;> (try with_reducible rfl))
   try simp only [Act.put, zq4, zq5, zq6]
   refine wpQ_val (v := ?_) (by rfl) ?_ ?_
   rotate_left
   ·(intro w hSw; (try dsimp only at hSw); obtain ⟨k0, k1, k2, k3, k4, k5, k6, k7, k8⟩ := HBox.out w hSw; have hrc := (HEc.out w hSw).1; have gc1 := hrc 1 _ rfl; clear hrc; go_simp <;> (try with_reducible rfl))
   try simp only [Act.put, zq4, zq5, zq6]
   refine wpQ_val (v := ?_) (by rfl) ?_ ?_
   rotate_left
   ·(intro w hSw; (try dsimp only at hSw); go_simp <;> (try with_reducible rfl))
   try simp only [Act.put, zq4, zq5, zq6]
   refine wpQ_val (v := ?_) (by rfl) ?_ ?_
   rotate_left
   ·(intro w hSw; (try dsimp only at hSw); go_simp <;> (try with_reducible rfl))
   try simp only [Act.put, zq4, zq5, zq6]
   refine wpQ_val (v := ?_) (by rfl) ?_ ?_
   rotate_left
   ·(intro w hSw; (try dsimp only at hSw); go_simp <;> (try with_reducible rfl))
   try simp only [Act.put, zq4, zq5, zq6]
   refine wpQ_skip (by kernel_rfl) ?_
   try simp only [Act.put, zq4, zq5, zq6]
   refine wpQ_skip (by kernel_rfl) ?_
   try simp only [Act.put, zq4, zq5, zq6]
   refine wpQ_skip (by kernel_rfl) ?_
   try simp only [Act.put, zq4, zq5, zq6]
   refine wpQ_skip (by kernel_rfl) ?_
   try simp only [Act.put, zq4, zq5, zq6]
   refine wpQ_skip (by kernel_rfl) ?_
   try simp only [Act.put, zq4, zq5, zq6]
   refine wpQ_skip (by kernel_rfl) ?_
   try simp only [Act.put, zq4, zq5, zq6]
   refine wpQ_skip (by kernel_rfl) ?_
   try simp only [Act.put, zq4, zq5, zq6]
   refine wpQ_skip (by kernel_rfl) ?_
   try simp only [Act.put, zq4, zq5, zq6]
   refine wpQ_skip (by kernel_rfl) ?_
   try simp only [Act.put, zq4, zq5, zq6]
   refine wpQ_skip (by kernel_rfl) ?_
   try simp only [Act.put, zq4, zq5, zq6]
   refine wpQ_skip (by kernel_rfl) ?_
   try simp only [Act.put, zq4, zq5, zq6]
   refine wpQ_skip (by kernel_rfl) ?_
   try simp only [Act.put, zq4, zq5, zq6]
   refine wpQ_skip (by kernel_rfl) ?_
   try simp only [Act.put, zq4, zq5, zq6]
   refine wpQ_skip (by kernel_rfl) ?_
   try simp only [Act.put, zq4, zq5, zq6]
   refine wpQ_val (v := ?_) (by rfl) ?_ ?_
   rotate_left
   ·(intro w hSw; (try dsimp only at hSw); go_simp <;> (try with_reducible rfl))
   try simp only [Act.put, zq4, zq5, zq6]
   refine wpQ_val (v := ?_) (by rfl) ?_ ?_
   rotate_left
   ·(intro w hSw; (try dsimp only at hSw); go_simp <;> (try with_reducible rfl))
   try simp only [Act.put, zq4, zq5, zq6]
   refine wpQuiet_nil ?_
   (intro w9 hw9; have HO9 := Lib.hid hw9; clear hw9)
   go_wp2_with fail
   go_ret
   exact ⟨rfl, HOB.out.same HO9.out⟩
end
end Go.Proofs.YtbapkcnfacklaaaGreat

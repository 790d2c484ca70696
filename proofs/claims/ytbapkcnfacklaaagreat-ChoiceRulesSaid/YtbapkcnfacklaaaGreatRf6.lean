/- The document's checks: rules. Printed by gen_rf6.py. -/
import Derived.Test.YtbapkcnfacklaaaGreatRf4
import Derived.Deep.MidRow
import Derived.BigFrame
import Derived.Carry
import Derived.Laws.ResultCell
set_option linter.unusedVariables false
namespace Go.Proofs.YtbapkcnfacklaaaGreat
open Go.RowKit
section
variable {w w' : World} {B : Nat}
def depCode (x : RecD) (p : PackD) (d : DepD) : Int := if x.wish d.on = 0 ∧ settingsD p d.cond.sets = false then 8 else x.wish d.on
def conCode (x : RecD) (p : PackD) (d : ConD) : Int := if settingsD p d.cond.sets = false then 8 else if d.with'.name.toList.isEmpty = true then 0 else if x.find d.with'.name < 0 then 7 else x.wish d.with'
def rulesD (x : RecD) (p : PackD) : Int × Int :=
 match p.deps.find? fun d => decide (depCode x p d ≠ 0) with
 | some d => (depCode x p d, d.line)
 | none => match p.cons.find? fun d => decide (conCode x p d ≠ 0) with
  | some d => (conCode x p d, d.line)
  | none => (0, 0)
theorem find_first {α : Type} {f : α → Int} {l : List α} {i : Nat} {d : α} (h : ∀ d ∈ l.take i, f d = 0) (hd : l[i]? = some d) (hn : f d ≠ 0) : (l.find? fun d => decide (f d ≠ 0)) = some d := by
 obtain ⟨hlt, rfl⟩ := List.getElem?_eq_some_iff.1 hd
 have e : ∀ g : α → Bool, l.find? g = (l.take i ++ l[i] :: l.drop (i + 1)).find? g := fun g => by rw [← List.drop_eq_getElem_cons hlt, List.take_append_drop]
 rw [e, List.find?_append, List.find?_eq_none.2 (fun d hd => by simp [h d hd]), Option.none_or, List.find?_cons_of_pos (by simpa using hn)]
theorem find_nil {α : Type} {f : α → Int} {l : List α} (h : ∀ d ∈ l, f d = 0) : (l.find? fun d => decide (f d ≠ 0)) = none :=
 List.find?_eq_none.2 fun d hd => by simp [h d hd]
theorem rulesD_dep {x : RecD} {p : PackD} {i : Nat} {d : DepD} {c : Int} (h : ∀ d ∈ p.deps.take i, depCode x p d = 0) (hd : p.deps[i]? = some d) (hc : depCode x p d = c) (hn : c ≠ 0) : rulesD x p = (c, d.line) := by
 subst hc
 unfold rulesD
 rw [find_first h hd hn]
theorem rulesD_con {x : RecD} {p : PackD} {i : Nat} {d : ConD} {c : Int} (h0 : ∀ d ∈ p.deps, depCode x p d = 0) (h : ∀ d ∈ p.cons.take i, conCode x p d = 0) (hd : p.cons[i]? = some d) (hc : conCode x p d = c) (hn : c ≠ 0) : rulesD x p = (c, d.line) := by
 subst hc
 unfold rulesD
 rw [find_nil h0, find_first h hd hn]
theorem rulesD_nil {x : RecD} {p : PackD} (h0 : ∀ d ∈ p.deps, depCode x p d = 0) (h : ∀ d ∈ p.cons, conCode x p d = 0) : rulesD x p = (0, 0) := by
 unfold rulesD
 rw [find_nil h0, find_nil h]
theorem only_setRow (w : World) (g : Nat) (cs : Array Value) : Only (fun k => k = g) w (w.setRow g cs) :=
 ⟨rfl, rfl, rfl, by simp [World.setRow], fun k hk hn => by
  unfold World.setRow
  simp only [Array.getElem?_modify]
  rw [if_neg (fun e => hn e.symm)]⟩
theorem results_cell {fn : Func} {p : Tmp} {ty : TypeId} (h : fn.results = #[.cell p ty]) (tmps : Array Value) (P : Program) (w : World) :
  (results fn tmps).run P w = ((asAddr (tmps.getD p undef)).run P w).andThen fun a w₁ => (loadVar ty a).run P w₁ := by
 simp only [results, h]
 simp [Sem.run_bind, Result.andThen]
theorem ret_prob {fn : Func} {p : Tmp} {Q : Ending → World → Prop} {a : Act} {W : World} {B : Nat} {cs : Array Value} (hf : fn.results = #[.cell p 122]) (hp : a.tmps.getD p undef = .pointer (some ⟨B, 0, none⟩)) (hd : a.defers = []) (hs : cs.size = 2) (hg : W.heap[B]? = some (.cells cs 122 (0, 0)))
  (h : Q (.returned (.agg cs)) W) : bodyPost Tryz.prog fn Q Exit.ret a W := by
 refine bodyPost_ret (v := .agg cs) ?_ hd h
 rw [results_cell hf, hp]
 simp only [asAddr, Sem.run_pure, Result.andThen_ok]
 exact run_loadVar_row W B 122 122 cs (0, 0) _ hg Tryz.underlying122 rfl (by rw [hs]; kernel_rfl)
set_option maxRecDepth 100000 in
set_option maxHeartbeats 4000000 in
theorem Rules9_any {csx : List Value} {x : RecD} (hx : RecC B w csx x) {csp : List Value} {p : PackD} (hp : PackC B w csp p) (hlen : x.packs.length ≤ 1000000) :
  Calls Tryz.prog 74 #[.agg csx.toArray, .agg csp.toArray] w fun e w' => e = .returned (.agg #[.int .u8 (rulesD x p).1, .int .i64 (rulesD x p).2]) ∧ Only (fun _ => False) w w' := by
 have HH_x := Lib.hid hx
 obtain ⟨u1, u2, rfl, r1, r2⟩ := hx
 obtain ⟨a_x_packs, c_x_packs, rfl, g_x_packs, h_x_packs⟩ := r1.shape
 obtain ⟨n_x_packs, e1⟩ : ∃ n, x.packs.length = n := ⟨_, rfl⟩
 have N_x_packs := Lib.hid e1
 obtain ⟨a_x_prefs, c_x_prefs, rfl, g_x_prefs, h_x_prefs⟩ := r2.shape
 obtain ⟨n_x_prefs, e2⟩ : ∃ n, x.prefs.length = n := ⟨_, rfl⟩
 have N_x_prefs := Lib.hid e2
 rw [e1, e2] at HH_x
 rw [e1] at r1 g_x_packs
 have RR_x_packs := Lib.hid r1
 rw [e2] at r2 g_x_prefs
 have RR_x_prefs := Lib.hid r2
 rw [e1, e2]
 clear e1 e2 r1 r2
 have HH_p := Lib.hid hp
 obtain ⟨u1, u2, u3, u4, u5, u6, rfl, -, -, r1, r2, r3, r4, r5, r6⟩ := hp
 obtain ⟨a_p_rels, c_p_rels, rfl, g_p_rels, h_p_rels⟩ := r1.shape
 obtain ⟨n_p_rels, e1⟩ : ∃ n, p.rels.length = n := ⟨_, rfl⟩
 have N_p_rels := Lib.hid e1
 obtain ⟨a_p_vars, c_p_vars, rfl, g_p_vars, h_p_vars⟩ := r2.shape
 obtain ⟨n_p_vars, e2⟩ : ∃ n, p.vars.length = n := ⟨_, rfl⟩
 have N_p_vars := Lib.hid e2
 obtain ⟨a_p_provides, c_p_provides, rfl, g_p_provides, h_p_provides⟩ := r3.shape
 obtain ⟨n_p_provides, e3⟩ : ∃ n, p.provides.length = n := ⟨_, rfl⟩
 have N_p_provides := Lib.hid e3
 obtain ⟨a_p_deps, c_p_deps, rfl, g_p_deps, h_p_deps⟩ := r4.shape
 obtain ⟨n_p_deps, e4⟩ : ∃ n, p.deps.length = n := ⟨_, rfl⟩
 have N_p_deps := Lib.hid e4
 obtain ⟨a_p_cons, c_p_cons, rfl, g_p_cons, h_p_cons⟩ := r5.shape
 obtain ⟨n_p_cons, e5⟩ : ∃ n, p.cons.length = n := ⟨_, rfl⟩
 have N_p_cons := Lib.hid e5
 obtain ⟨a_p_files, c_p_files, rfl, g_p_files, h_p_files⟩ := r6.shape
 obtain ⟨n_p_files, e6⟩ : ∃ n, p.files.length = n := ⟨_, rfl⟩
 have N_p_files := Lib.hid e6
 rw [e1, e2, e3, e4, e5, e6] at HH_p
 rw [e1] at r1 g_p_rels
 have RR_p_rels := Lib.hid r1
 rw [e2] at r2 g_p_vars
 have RR_p_vars := Lib.hid r2
 rw [e3] at r3 g_p_provides
 have RR_p_provides := Lib.hid r3
 rw [e4] at r4 g_p_deps
 have RR_p_deps := Lib.hid r4
 rw [e5] at r5 g_p_cons
 have RR_p_cons := Lib.hid r5
 rw [e6] at r6 g_p_files
 have RR_p_files := Lib.hid r6
 rw [e1, e2, e3, e4, e5, e6]
 clear e1 e2 e3 e4 e5 e6 r1 r2 r3 r4 r5 r6
 obtain ⟨W0, hW0⟩ : ∃ W0, W0 = ((w.alloc (.cells #[.slice a_x_packs n_x_packs c_x_packs, .slice a_x_prefs n_x_prefs c_x_prefs] 25)).alloc (.cells #[.string p.name, .int .i64 p.line, .slice a_p_rels n_p_rels c_p_rels, .slice a_p_vars n_p_vars c_p_vars, .slice a_p_provides n_p_provides c_p_provides, .slice a_p_deps n_p_deps c_p_deps, .slice a_p_cons n_p_cons c_p_cons, .slice a_p_files n_p_files c_p_files] 43)) := ⟨_, rfl⟩
 have HOB : Hid (Only (fun _ => False) w W0) := by rw [hW0]; exact ((Only.refl _ _).alloc _).alloc _
 have HSz : Hid (W0.heap.size = w.heap.size + 2) := by rw [hW0]; simp [Hid]
 have HBox : Hid (∀ W, Only (fun _ => False) W0 W → W.cell? ⟨w.heap.size, 0, none⟩ = some (.slice a_x_packs n_x_packs c_x_packs) ∧ W.cell? ⟨w.heap.size, 1, none⟩ = some (.slice a_x_prefs n_x_prefs c_x_prefs) ∧ W.cell? ⟨w.heap.size + 1, 0, none⟩ = some (.string p.name) ∧ W.cell? ⟨w.heap.size + 1, 1, none⟩ = some (.int .i64 p.line) ∧ W.cell? ⟨w.heap.size + 1, 2, none⟩ = some (.slice a_p_rels n_p_rels c_p_rels) ∧ W.cell? ⟨w.heap.size + 1, 3, none⟩ = some (.slice a_p_vars n_p_vars c_p_vars) ∧ W.cell? ⟨w.heap.size + 1, 4, none⟩ = some (.slice a_p_provides n_p_provides c_p_provides) ∧ W.cell? ⟨w.heap.size + 1, 5, none⟩ = some (.slice a_p_deps n_p_deps c_p_deps) ∧ W.cell? ⟨w.heap.size + 1, 6, none⟩ = some (.slice a_p_cons n_p_cons c_p_cons) ∧ W.cell? ⟨w.heap.size + 1, 7, none⟩ = some (.slice a_p_files n_p_files c_p_files)) := fun W ho => by
  have b0 : W0.heap[w.heap.size]? = some (.cells #[.slice a_x_packs n_x_packs c_x_packs, .slice a_x_prefs n_x_prefs c_x_prefs] 25) := by rw [hW0]; exact alloc_block (alloc_at rfl) _
  have d0 := only_block b0 ho (fun f => f)
  have b1 : W0.heap[w.heap.size + 1]? = some (.cells #[.string p.name, .int .i64 p.line, .slice a_p_rels n_p_rels c_p_rels, .slice a_p_vars n_p_vars c_p_vars, .slice a_p_provides n_p_provides c_p_provides, .slice a_p_deps n_p_deps c_p_deps, .slice a_p_cons n_p_cons c_p_cons, .slice a_p_files n_p_files c_p_files] 43) := by rw [hW0]; exact alloc_at (by simp)
  have d1 := only_block b1 ho (fun f => f)
  exact ⟨by rw [cell_block d0]; rfl, by rw [cell_block d0]; rfl, by rw [cell_block d1]; rfl, by rw [cell_block d1]; rfl, by rw [cell_block d1]; rfl, by rw [cell_block d1]; rfl, by rw [cell_block d1]; rfl, by rw [cell_block d1]; rfl, by rw [cell_block d1]; rfl, by rw [cell_block d1]; rfl⟩
 have HK_x : Hid (∀ W, Only (fun _ => False) W0 W → RecC B W [.slice a_x_packs n_x_packs c_x_packs, .slice a_x_prefs n_x_prefs c_x_prefs] x) := fun W ho => RecC.keep HH_x.out (Kp.of0 (HOB.out.same ho) : Kp B w W)
 have HR_x_packs : Hid (∀ W, Only (fun _ => False) W0 W → RowT 8 PackC B W (.slice a_x_packs n_x_packs c_x_packs) x.packs) := fun W ho => RR_x_packs.out.keep PackC.keep (Kp.of0 (HOB.out.same ho))
 clear RR_x_packs
 have HR_x_prefs : Hid (∀ W, Only (fun _ => False) W0 W → RowT 3 PrefC B W (.slice a_x_prefs n_x_prefs c_x_prefs) x.prefs) := fun W ho => RR_x_prefs.out.keep PrefC.keep (Kp.of0 (HOB.out.same ho))
 clear RR_x_prefs
 clear HH_x
 have HK_p : Hid (∀ W, Only (fun _ => False) W0 W → PackC B W [.string p.name, .int .i64 p.line, .slice a_p_rels n_p_rels c_p_rels, .slice a_p_vars n_p_vars c_p_vars, .slice a_p_provides n_p_provides c_p_provides, .slice a_p_deps n_p_deps c_p_deps, .slice a_p_cons n_p_cons c_p_cons, .slice a_p_files n_p_files c_p_files] p) := fun W ho => PackC.keep HH_p.out (Kp.of0 (HOB.out.same ho) : Kp B w W)
 have HR_p_rels : Hid (∀ W, Only (fun _ => False) W0 W → RowT 2 RelC B W (.slice a_p_rels n_p_rels c_p_rels) p.rels) := fun W ho => RR_p_rels.out.keep RelC.keep (Kp.of0 (HOB.out.same ho))
 clear RR_p_rels
 have HR_p_vars : Hid (∀ W, Only (fun _ => False) W0 W → RowT 2 VarC B W (.slice a_p_vars n_p_vars c_p_vars) p.vars) := fun W ho => RR_p_vars.out.keep VarC.keep (Kp.of0 (HOB.out.same ho))
 clear RR_p_vars
 have HR_p_provides : Hid (∀ W, Only (fun _ => False) W0 W → RowT 1 StrC B W (.slice a_p_provides n_p_provides c_p_provides) p.provides) := fun W ho => RR_p_provides.out.keep StrC.keep (Kp.of0 (HOB.out.same ho))
 clear RR_p_provides
 have HR_p_deps : Hid (∀ W, Only (fun _ => False) W0 W → RowT 7 DepC B W (.slice a_p_deps n_p_deps c_p_deps) p.deps) := fun W ho => RR_p_deps.out.keep DepC.keep (Kp.of0 (HOB.out.same ho))
 clear RR_p_deps
 have HR_p_cons : Hid (∀ W, Only (fun _ => False) W0 W → RowT 7 ConC B W (.slice a_p_cons n_p_cons c_p_cons) p.cons) := fun W ho => RR_p_cons.out.keep ConC.keep (Kp.of0 (HOB.out.same ho))
 clear RR_p_cons
 have HR_p_files : Hid (∀ W, Only (fun _ => False) W0 W → RowT 1 StrC B W (.slice a_p_files n_p_files c_p_files) p.files) := fun W ho => RR_p_files.out.keep StrC.keep (Kp.of0 (HOB.out.same ho))
 clear RR_p_files
 clear HH_p
 clear g_x_prefs h_x_prefs N_x_prefs HR_x_prefs
 clear g_p_rels h_p_rels N_p_rels HR_p_rels g_p_vars h_p_vars N_p_vars HR_p_vars g_p_provides h_p_provides N_p_provides HR_p_provides g_p_files h_p_files N_p_files HR_p_files
 rw [N_x_packs.out] at hlen
 obtain ⟨r, hr⟩ : ∃ r, rulesD x p = r := ⟨_, rfl⟩
 rw [hr]
 have HRes := Lib.hid hr
 clear hr
 obtain ⟨W1, hW1⟩ : ∃ W, W = W0.alloc (.cells #[.int .u8 0, .int .i64 0] 122) := ⟨_, rfl⟩
 have HO1 : Hid (Only (fun _ => False) W0 W1) := by rw [hW1]; exact (Only.refl _ _).alloc _
 have HRr : Hid (∀ W, Only (fun _ => False) W1 W → W.heap[w.heap.size + 2]? = some (.cells #[.int .u8 0, .int .i64 0] 122)) := fun W ho => by
  have b0 : W1.heap[w.heap.size + 2]? = some (.cells #[.int .u8 0, .int .i64 0] 122) := by rw [hW1, ← HSz.out]; exact heap_alloc_new W0 _
  exact only_block b0 ho (fun f => f)
 go_enter Tryz.func74, Tryz.ntmps74
 go_wp2_with fail
 rw [← hW0, ← hW1]
 clear hW0 hW1
 have HOC : Hid (Only (fun _ => False) W1 W1) := Only.refl _ _
 go_loopw [14] (fun vi wri => Hid (Only (fun _ => False) W1 wri) ∧ ∃ i : Nat, vi = .int .i64 i ∧ i ≤ n_p_deps ∧ Hid (∀ d ∈ p.deps.take i, depCode x p d = 0)) (fun v _ => n_p_deps - (RowKit.intOf v).toNat)
 case atStart => exact ⟨HOC, 0, rfl, Nat.zero_le _, show Hid _ from fun v hv => by simp at hv⟩
 case round =>
  obtain ⟨wri, rfl⟩ : ∃ W, W = wr := ⟨_, rfl⟩
  clear HOC
  obtain ⟨HPi, i, rfl, hi, HZ⟩ := hrel
  obtain ⟨k0, k1, k2, k3, k4, k5, k6, k7, k8, k9⟩ := HBox.out wri (HO1.out.same HPi.out)
  by_cases ci : i < n_p_deps
  ·clear k0 k1 k2 k3 k4 k5 k6 k7 k8 k9
   have ewi : IntKind.i64.wrap ((i : Int) + 1) = (i : Int) + 1 := by rw [IntKind.wrap_i64]; omega
   obtain ⟨yy, hxy⟩ : ∃ y, p.deps[i]? = some y := ⟨_, List.getElem?_eq_getElem (by rw [N_p_deps.out]; omega)⟩
   obtain ⟨bky, offy, ay1, ny1, cy1, ay2, ny2, cy2, ay3, ny3, cy3, ay4, ny4, cy4, hey, N0y1, N0y2, N0y3, N0y4, oky1, oky2, iny1, HE0y⟩ := DepC_at (HR_p_deps.out W0 (Only.refl _ _)) hxy
   first
    | subst hey
    | (simp only [Option.some.injEq, Addr.mk.injEq, and_true] at hey; obtain ⟨rfl, rfl⟩ := hey)
   have Ny1 := Lib.hid N0y1
   have Ny2 := Lib.hid N0y2
   have Ny3 := Lib.hid N0y3
   have Ny4 := Lib.hid N0y4
   have HEy := Lib.hid HE0y
   have HXy := Lib.hid hxy
   clear HE0y hxy N0y1 N0y2 N0y3 N0y4
   have HRy1 : Hid (∀ W, Only (fun _ => False) W0 W → RowT 2 SpanC B W (.slice ay1 ny1 cy1) yy.on.spans) := fun W ho => (HEy.out W ho).2.1
   have HRy2 : Hid (∀ W, Only (fun _ => False) W0 W → RowT 2 SetC B W (.slice ay2 ny2 cy2) yy.on.sets) := fun W ho => (HEy.out W ho).2.2.1
   have HRy3 : Hid (∀ W, Only (fun _ => False) W0 W → RowT 2 SpanC B W (.slice ay3 ny3 cy3) yy.cond.spans) := fun W ho => (HEy.out W ho).2.2.2.1
   have HRy4 : Hid (∀ W, Only (fun _ => False) W0 W → RowT 2 SetC B W (.slice ay4 ny4 cy4) yy.cond.sets) := fun W ho => (HEy.out W ho).2.2.2.2.1
   have HCy : Hid (∀ W, Only (fun _ => False) W0 W → DepC B W [.string yy.on.name, .slice ay1 ny1 cy1, .slice ay2 ny2 cy2, .string yy.cond.name, .slice ay3 ny3 cy3, .slice ay4 ny4 cy4, .int .i64 yy.line] yy) := fun W ho => (HEy.out W ho).2.2.2.2.2
   have HWs : Hid (∀ W, Only (fun _ => False) W0 W → Calls Tryz.prog 76 #[.agg #[.slice a_x_packs n_x_packs c_x_packs, .slice a_x_prefs n_x_prefs c_x_prefs], .agg #[.string yy.on.name, .slice ay1 ny1 cy1, .slice ay2 ny2 cy2]] W fun e w' => e = .returned (.int .u8 (x.wish yy.on)) ∧ Only (fun _ => False) W w') := fun W hW => Wish_any (HK_x.out W hW) (⟨_, _, rfl, oky1, HRy1.out W hW, HRy2.out W hW⟩ : SpecC B W [.string yy.on.name, .slice ay1 ny1 cy1, .slice ay2 ny2 cy2] yy.on) (by rw [N_x_packs.out]; exact hlen)
   have HSt : Hid (∀ W, Only (fun _ => False) W0 W → Calls Tryz.prog 95 #[.agg #[.string p.name, .int .i64 p.line, .slice a_p_rels n_p_rels c_p_rels, .slice a_p_vars n_p_vars c_p_vars, .slice a_p_provides n_p_provides c_p_provides, .slice (some ⟨bky, offy, none⟩) n_p_deps c_p_deps, .slice a_p_cons n_p_cons c_p_cons, .slice a_p_files n_p_files c_p_files], .slice ay4 ny4 cy4] W fun e w' => e = .returned (.bool (settingsD p yy.cond.sets)) ∧ Only (fun _ => False) W w') := fun W hW => Settings_any (HK_p.out W hW) (HRy4.out W hW)
   have hry := Lib.hid (HEy.out wri (HO1.out.same HPi.out)).1
   obtain ⟨W2, hW2⟩ : ∃ W, W = wri.alloc (.cells #[.string yy.on.name, .slice ay1 ny1 cy1, .slice ay2 ny2 cy2, .string yy.cond.name, .slice ay3 ny3 cy3, .slice ay4 ny4 cy4, .int .i64 yy.line] 53) := ⟨_, rfl⟩
   have HP2 : Hid (Only (fun _ => False) W1 W2) := by rw [hW2]; exact (HPi.out).alloc _
   have HBd : Hid (∀ W, Only (fun _ => False) W2 W → W.cell? ⟨wri.heap.size, 0, none⟩ = some (.string yy.on.name) ∧ W.cell? ⟨wri.heap.size, 1, none⟩ = some (.slice ay1 ny1 cy1) ∧ W.cell? ⟨wri.heap.size, 2, none⟩ = some (.slice ay2 ny2 cy2) ∧ W.cell? ⟨wri.heap.size, 3, none⟩ = some (.string yy.cond.name) ∧ W.cell? ⟨wri.heap.size, 4, none⟩ = some (.slice ay3 ny3 cy3) ∧ W.cell? ⟨wri.heap.size, 5, none⟩ = some (.slice ay4 ny4 cy4) ∧ W.cell? ⟨wri.heap.size, 6, none⟩ = some (.int .i64 yy.line)) := fun W ho => by
    have b0 : W2.heap[wri.heap.size]? = some (.cells #[.string yy.on.name, .slice ay1 ny1 cy1, .slice ay2 ny2 cy2, .string yy.cond.name, .slice ay3 ny3 cy3, .slice ay4 ny4 cy4, .int .i64 yy.line] 53) := by rw [hW2]; exact heap_alloc_new wri _
    have b1 := only_block b0 ho (fun f => f)
    exact ⟨by rw [cell_block b1]; rfl, by rw [cell_block b1]; rfl, by rw [cell_block b1]; rfl, by rw [cell_block b1]; rfl, by rw [cell_block b1]; rfl, by rw [cell_block b1]; rfl, by rw [cell_block b1]; rfl⟩
   obtain ⟨m0, m1, m2, m3, m4, m5, m6, m7, m8, m9⟩ := HBox.out W2 (HO1.out.same HP2.out)
   rw [hW2] at m0 m1 m2 m3 m4 m5 m6 m7 m8 m9
   obtain ⟨k0, k1, k2, k3, k4, k5, k6, k7, k8, k9⟩ := HBox.out wri (HO1.out.same HPi.out)
   obtain ⟨d0, d1, d2, d3, d4, d5, d6⟩ := HBd.out W2 (Only.refl _ _)
   rw [hW2] at d0 d1 d2 d3 d4 d5 d6
   go_wp2_with (refine wpList_load_mid rfl 53 (.tmp 20) rfl bky (offy + i * 7) rfl _ _ hry.out Tryz.underlying53 rfl (by kernel_rfl) ?_)
   rw [← hW2]
   clear m0 m1 m2 m3 m4 m5 m6 m7 m8 m9 d0 d1 d2 d3 d4 d5 d6 hW2 hry
   refine (HWs.out W2 (HO1.out.same HP2.out)).mono ?_
   rintro e w3 ⟨rfl, O1⟩
   have HP3 := Lib.hid (HP2.out.same O1)
   have HQ3 : Hid (Only (fun _ => False) W2 w3) := O1
   clear O1 k0 k1 k2 k3 k4 k5 k6 k7 k8 k9
   obtain ⟨k0, k1, k2, k3, k4, k5, k6, k7, k8, k9⟩ := HBox.out w3 (HO1.out.same HP3.out)
   obtain ⟨d0, d1, d2, d3, d4, d5, d6⟩ := HBd.out w3 (HQ3.out)
   obtain ⟨c, hc⟩ : ∃ c, x.wish yy.on = c := ⟨_, rfl⟩
   obtain ⟨sb, hsb⟩ : ∃ b, settingsD p yy.cond.sets = b := ⟨_, rfl⟩
   simp only [hsb] at HSt
   rw [hc]
   have HC := Lib.hid hc
   have HSb := Lib.hid hsb
   clear hc hsb
   by_cases c0 : c = 0
   ·subst c0
    go_wp2_with fail
    refine (HSt.out w3 (HO1.out.same HP3.out)).mono ?_
    rintro e w4 ⟨rfl, O1⟩
    have HP4 := Lib.hid (HP3.out.same O1)
    have HQ4 : Hid (Only (fun _ => False) W2 w4) := HQ3.out.same O1
    clear O1 k0 k1 k2 k3 k4 k5 k6 k7 k8 k9 d0 d1 d2 d3 d4 d5 d6
    obtain ⟨k0, k1, k2, k3, k4, k5, k6, k7, k8, k9⟩ := HBox.out w4 (HO1.out.same HP4.out)
    obtain ⟨d0, d1, d2, d3, d4, d5, d6⟩ := HBd.out w4 (HQ4.out)
    cases sb with
    | true =>
     have hcode : depCode x p yy = 0 := by
      unfold depCode
      rw [HC.out, HSb.out]
      simp
     have HZ2 : Hid (∀ d ∈ p.deps.take (i + 1), depCode x p d = 0) := fun v hv => by
      rcases mem_take_snoc HXy.out hv with h | rfl
      ·exact HZ.out v h
      ·exact hcode
     go_wp2_with fail
     go_roundw
     case rel => exact ⟨HP4, i + 1, by first | rfl | go_num, by omega, HZ2⟩
     case measure => simp [RowKit.intOf] <;> omega
    | false =>
     have hr2 : r = (8, yy.line) := by
      rw [← HRes.out]
      exact rulesD_dep HZ.out HXy.out (by unfold depCode; rw [HC.out, HSb.out]; simp) (by first | decide | assumption)
     subst hr2
     go_wp2_with (refine wpList_store_row rfl 122 (.tmp 4) (.tmp 41) rfl (w.heap.size + 2) #[.int .u8 8, .int .i64 yy.line] rfl rfl 122 #[.int .u8 0, .int .i64 0] (HRr.out w4 HP4.out) (by kernel_rfl) rfl (by kernel_rfl) ?_)
     refine ret_prob (p := 4) rfl rfl rfl rfl (setRow_heap _ _ _ _ _ _ (HRr.out w4 HP4.out)) ?_
     exact ⟨rfl, (HOB.out.same (HO1.out.same HP4.out)).trans (only_setRow _ _ _) (fun k hk => .inr (by omega))⟩
   ·have c1 : ((c : Int) == 0) = false := by rw [beq_eq_false_iff_ne]; exact c0
    have hr2 : r = (c, yy.line) := by
     rw [← HRes.out]
     exact rulesD_dep HZ.out HXy.out (by unfold depCode; rw [HC.out]; simp [c0]) (by first | decide | assumption)
    subst hr2
    go_wp2_with (refine wpList_store_row rfl 122 (.tmp 4) (.tmp 41) rfl (w.heap.size + 2) #[.int .u8 c, .int .i64 yy.line] rfl rfl 122 #[.int .u8 0, .int .i64 0] (HRr.out w3 HP3.out) (by kernel_rfl) rfl (by kernel_rfl) ?_)
    refine ret_prob (p := 4) rfl rfl rfl rfl (setRow_heap _ _ _ _ _ _ (HRr.out w3 HP3.out)) ?_
    exact ⟨rfl, (HOB.out.same (HO1.out.same HP3.out)).trans (only_setRow _ _ _) (fun k hk => .inr (by omega))⟩
  ·obtain rfl : n_p_deps = i := by omega
   have HZa : Hid (∀ d ∈ p.deps, depCode x p d = 0) := fun d hd => HZ.out d (by
    rw [List.take_of_length_le (Nat.le_of_eq N_p_deps.out)]
    exact hd)
   have HOC := HPi
   go_wp2_with fail
   go_loopw [46] (fun vj wrj => Hid (Only (fun _ => False) W1 wrj) ∧ ∃ j : Nat, vj = .int .i64 j ∧ j ≤ n_p_cons ∧ Hid (∀ d ∈ p.cons.take j, conCode x p d = 0)) (fun v _ => n_p_cons - (RowKit.intOf v).toNat)
   case atStart => exact ⟨HOC, 0, rfl, Nat.zero_le _, show Hid _ from fun v hv => by simp at hv⟩
   case round =>
    obtain ⟨wrj, rfl⟩ : ∃ W, W = wr := ⟨_, rfl⟩
    clear HOC
    obtain ⟨HPj, j, rfl, hj, HZj⟩ := hrel
    clear k0 k1 k2 k3 k4 k5 k6 k7 k8 k9
    obtain ⟨k0, k1, k2, k3, k4, k5, k6, k7, k8, k9⟩ := HBox.out wrj (HO1.out.same HPj.out)
    by_cases cj : j < n_p_cons
    ·clear k0 k1 k2 k3 k4 k5 k6 k7 k8 k9
     have ewi : IntKind.i64.wrap ((j : Int) + 1) = (j : Int) + 1 := by rw [IntKind.wrap_i64]; omega
     obtain ⟨yz, hxz⟩ : ∃ y, p.cons[j]? = some y := ⟨_, List.getElem?_eq_getElem (by rw [N_p_cons.out]; omega)⟩
     obtain ⟨bkz, offz, az1, nz1, cz1, az2, nz2, cz2, az3, nz3, cz3, az4, nz4, cz4, hez, N0z1, N0z2, N0z3, N0z4, okz1, okz2, inz1, HE0z⟩ := ConC_at (HR_p_cons.out W0 (Only.refl _ _)) hxz
     first
      | subst hez
      | (simp only [Option.some.injEq, Addr.mk.injEq, and_true] at hez; obtain ⟨rfl, rfl⟩ := hez)
     have Nz1 := Lib.hid N0z1
     have Nz2 := Lib.hid N0z2
     have Nz3 := Lib.hid N0z3
     have Nz4 := Lib.hid N0z4
     have HEz := Lib.hid HE0z
     have HXz := Lib.hid hxz
     clear HE0z hxz N0z1 N0z2 N0z3 N0z4
     have HRz1 : Hid (∀ W, Only (fun _ => False) W0 W → RowT 2 SpanC B W (.slice az1 nz1 cz1) yz.cond.spans) := fun W ho => (HEz.out W ho).2.1
     have HRz2 : Hid (∀ W, Only (fun _ => False) W0 W → RowT 2 SetC B W (.slice az2 nz2 cz2) yz.cond.sets) := fun W ho => (HEz.out W ho).2.2.1
     have HRz3 : Hid (∀ W, Only (fun _ => False) W0 W → RowT 2 SpanC B W (.slice az3 nz3 cz3) yz.with'.spans) := fun W ho => (HEz.out W ho).2.2.2.1
     have HRz4 : Hid (∀ W, Only (fun _ => False) W0 W → RowT 2 SetC B W (.slice az4 nz4 cz4) yz.with'.sets) := fun W ho => (HEz.out W ho).2.2.2.2.1
     have HCz : Hid (∀ W, Only (fun _ => False) W0 W → ConC B W [.string yz.cond.name, .slice az1 nz1 cz1, .slice az2 nz2 cz2, .string yz.with'.name, .slice az3 nz3 cz3, .slice az4 nz4 cz4, .int .i64 yz.line] yz) := fun W ho => (HEz.out W ho).2.2.2.2.2
     have HWs : Hid (∀ W, Only (fun _ => False) W0 W → Calls Tryz.prog 76 #[.agg #[.slice a_x_packs n_x_packs c_x_packs, .slice a_x_prefs n_x_prefs c_x_prefs], .agg #[.string yz.with'.name, .slice az3 nz3 cz3, .slice az4 nz4 cz4]] W fun e w' => e = .returned (.int .u8 (x.wish yz.with')) ∧ Only (fun _ => False) W w') := fun W hW => Wish_any (HK_x.out W hW) (⟨_, _, rfl, okz2, HRz3.out W hW, HRz4.out W hW⟩ : SpecC B W [.string yz.with'.name, .slice az3 nz3 cz3, .slice az4 nz4 cz4] yz.with') (by rw [N_x_packs.out]; exact hlen)
     have HF : Hid (∀ W, Only (fun _ => False) W0 W → Calls Tryz.prog 82 #[.agg #[.slice a_x_packs n_x_packs c_x_packs, .slice a_x_prefs n_x_prefs c_x_prefs], .string yz.with'.name] W fun e w' => e = .returned (.int .i64 (x.find yz.with'.name)) ∧ Only (fun _ => False) W w') := fun W hW => Find9_any (HK_x.out W hW) _
     have HSt : Hid (∀ W, Only (fun _ => False) W0 W → Calls Tryz.prog 95 #[.agg #[.string p.name, .int .i64 p.line, .slice a_p_rels n_p_rels c_p_rels, .slice a_p_vars n_p_vars c_p_vars, .slice a_p_provides n_p_provides c_p_provides, .slice a_p_deps n_p_deps c_p_deps, .slice (some ⟨bkz, offz, none⟩) n_p_cons c_p_cons, .slice a_p_files n_p_files c_p_files], .slice az2 nz2 cz2] W fun e w' => e = .returned (.bool (settingsD p yz.cond.sets)) ∧ Only (fun _ => False) W w') := fun W hW => Settings_any (HK_p.out W hW) (HRz2.out W hW)
     have hrz := Lib.hid (HEz.out wrj (HO1.out.same HPj.out)).1
     obtain ⟨W4, hW4⟩ : ∃ W, W = wrj.alloc (.cells #[.string yz.cond.name, .slice az1 nz1 cz1, .slice az2 nz2 cz2, .string yz.with'.name, .slice az3 nz3 cz3, .slice az4 nz4 cz4, .int .i64 yz.line] 55) := ⟨_, rfl⟩
     have HP4 : Hid (Only (fun _ => False) W1 W4) := by rw [hW4]; exact (HPj.out).alloc _
     have HBd : Hid (∀ W, Only (fun _ => False) W4 W → W.cell? ⟨wrj.heap.size, 0, none⟩ = some (.string yz.cond.name) ∧ W.cell? ⟨wrj.heap.size, 1, none⟩ = some (.slice az1 nz1 cz1) ∧ W.cell? ⟨wrj.heap.size, 2, none⟩ = some (.slice az2 nz2 cz2) ∧ W.cell? ⟨wrj.heap.size, 3, none⟩ = some (.string yz.with'.name) ∧ W.cell? ⟨wrj.heap.size, 4, none⟩ = some (.slice az3 nz3 cz3) ∧ W.cell? ⟨wrj.heap.size, 5, none⟩ = some (.slice az4 nz4 cz4) ∧ W.cell? ⟨wrj.heap.size, 6, none⟩ = some (.int .i64 yz.line)) := fun W ho => by
      have b0 : W4.heap[wrj.heap.size]? = some (.cells #[.string yz.cond.name, .slice az1 nz1 cz1, .slice az2 nz2 cz2, .string yz.with'.name, .slice az3 nz3 cz3, .slice az4 nz4 cz4, .int .i64 yz.line] 55) := by rw [hW4]; exact heap_alloc_new wrj _
      have b1 := only_block b0 ho (fun f => f)
      exact ⟨by rw [cell_block b1]; rfl, by rw [cell_block b1]; rfl, by rw [cell_block b1]; rfl, by rw [cell_block b1]; rfl, by rw [cell_block b1]; rfl, by rw [cell_block b1]; rfl, by rw [cell_block b1]; rfl⟩
     obtain ⟨m0, m1, m2, m3, m4, m5, m6, m7, m8, m9⟩ := HBox.out W4 (HO1.out.same HP4.out)
     rw [hW4] at m0 m1 m2 m3 m4 m5 m6 m7 m8 m9
     obtain ⟨k0, k1, k2, k3, k4, k5, k6, k7, k8, k9⟩ := HBox.out wrj (HO1.out.same HPj.out)
     obtain ⟨d0, d1, d2, d3, d4, d5, d6⟩ := HBd.out W4 (Only.refl _ _)
     rw [hW4] at d0 d1 d2 d3 d4 d5 d6
     obtain ⟨e0, he0⟩ : ∃ b, yz.with'.name.toList.isEmpty = b := ⟨_, rfl⟩
     obtain ⟨sb, hsb⟩ : ∃ b, settingsD p yz.cond.sets = b := ⟨_, rfl⟩
     simp only [hsb] at HSt
     have HSb := Lib.hid hsb
     have HE0 := Lib.hid he0
     clear hsb
     cases e0 with
     | true =>
      go_wp2_with (refine wpList_load_mid rfl 55 (.tmp 52) rfl bkz (offz + j * 7) rfl _ _ hrz.out Tryz.underlying55 rfl (by kernel_rfl) ?_)
      rw [← hW4]
      clear m0 m1 m2 m3 m4 m5 m6 m7 m8 m9 hW4 hrz
      clear k0 k1 k2 k3 k4 k5 k6 k7 k8 k9
      obtain ⟨k0, k1, k2, k3, k4, k5, k6, k7, k8, k9⟩ := HBox.out W4 (HO1.out.same HP4.out)
      go_wp2_with fail
      refine (HSt.out W4 (HO1.out.same HP4.out)).mono ?_
      rintro e w5 ⟨rfl, O1⟩
      have HP5 := Lib.hid (HP4.out.same O1)
      have HQ5 : Hid (Only (fun _ => False) W4 w5) := O1
      clear O1 k0 k1 k2 k3 k4 k5 k6 k7 k8 k9 d0 d1 d2 d3 d4 d5 d6
      obtain ⟨k0, k1, k2, k3, k4, k5, k6, k7, k8, k9⟩ := HBox.out w5 (HO1.out.same HP5.out)
      obtain ⟨d0, d1, d2, d3, d4, d5, d6⟩ := HBd.out w5 (HQ5.out)
      cases sb with
      | false =>
       have hr2 : r = (8, yz.line) := by
        rw [← HRes.out]
        exact rulesD_con HZa.out HZj.out HXz.out (by unfold conCode; rw [HSb.out]; simp) (by first | decide | assumption)
       subst hr2
       go_wp2_with (refine wpList_store_row rfl 122 (.tmp 4) (.tmp 79) rfl (w.heap.size + 2) #[.int .u8 8, .int .i64 yz.line] rfl rfl 122 #[.int .u8 0, .int .i64 0] (HRr.out w5 HP5.out) (by kernel_rfl) rfl (by kernel_rfl) ?_)
       refine ret_prob (p := 4) rfl rfl rfl rfl (setRow_heap _ _ _ _ _ _ (HRr.out w5 HP5.out)) ?_
       exact ⟨rfl, (HOB.out.same (HO1.out.same HP5.out)).trans (only_setRow _ _ _) (fun k hk => .inr (by omega))⟩
      | true =>
       have hcode : conCode x p yz = 0 := by
        unfold conCode
        rw [HSb.out, HE0.out]
        simp
       have HZ3 : Hid (∀ d ∈ p.cons.take (j + 1), conCode x p d = 0) := fun v hv => by
        rcases mem_take_snoc HXz.out hv with h | rfl
        ·exact HZj.out v h
        ·exact hcode
       go_wp2_with fail
       go_roundw
       case rel => exact ⟨HP5, j + 1, by first | rfl | go_num, by omega, HZ3⟩
       case measure => simp [RowKit.intOf] <;> omega
     | false =>
      go_wp2_with (refine wpList_load_mid rfl 55 (.tmp 52) rfl bkz (offz + j * 7) rfl _ _ hrz.out Tryz.underlying55 rfl (by kernel_rfl) ?_)
      rw [← hW4]
      clear m0 m1 m2 m3 m4 m5 m6 m7 m8 m9 hW4 hrz
      clear k0 k1 k2 k3 k4 k5 k6 k7 k8 k9
      obtain ⟨k0, k1, k2, k3, k4, k5, k6, k7, k8, k9⟩ := HBox.out W4 (HO1.out.same HP4.out)
      go_wp2_with fail
      refine (HWs.out W4 (HO1.out.same HP4.out)).mono ?_
      rintro e w5 ⟨rfl, O1⟩
      have HP5 := Lib.hid (HP4.out.same O1)
      have HQ5 : Hid (Only (fun _ => False) W4 w5) := O1
      clear O1 k0 k1 k2 k3 k4 k5 k6 k7 k8 k9 d0 d1 d2 d3 d4 d5 d6
      obtain ⟨k0, k1, k2, k3, k4, k5, k6, k7, k8, k9⟩ := HBox.out w5 (HO1.out.same HP5.out)
      obtain ⟨d0, d1, d2, d3, d4, d5, d6⟩ := HBd.out w5 (HQ5.out)
      obtain ⟨c, hc⟩ : ∃ c, x.wish yz.with' = c := ⟨_, rfl⟩
      rw [hc]
      have HC := Lib.hid hc
      clear hc
      go_wp2_with fail
      refine (HF.out w5 (HO1.out.same HP5.out)).mono ?_
      rintro e w6 ⟨rfl, O1⟩
      have HP6 := Lib.hid (HP5.out.same O1)
      have HQ6 : Hid (Only (fun _ => False) W4 w6) := HQ5.out.same O1
      clear O1 k0 k1 k2 k3 k4 k5 k6 k7 k8 k9 d0 d1 d2 d3 d4 d5 d6
      obtain ⟨k0, k1, k2, k3, k4, k5, k6, k7, k8, k9⟩ := HBox.out w6 (HO1.out.same HP6.out)
      obtain ⟨d0, d1, d2, d3, d4, d5, d6⟩ := HBd.out w6 (HQ6.out)
      obtain ⟨f, hf⟩ : ∃ f, x.find yz.with'.name = f := ⟨_, rfl⟩
      rw [hf]
      by_cases fl : f < 0
      ·have HFl : Hid (x.find yz.with'.name < 0) := by rw [hf]; exact fl
       clear hf
       go_wp2_with fail
       refine (HSt.out w6 (HO1.out.same HP6.out)).mono ?_
       rintro e w7 ⟨rfl, O1⟩
       have HP7 := Lib.hid (HP6.out.same O1)
       have HQ7 : Hid (Only (fun _ => False) W4 w7) := HQ6.out.same O1
       clear O1 k0 k1 k2 k3 k4 k5 k6 k7 k8 k9 d0 d1 d2 d3 d4 d5 d6
       obtain ⟨k0, k1, k2, k3, k4, k5, k6, k7, k8, k9⟩ := HBox.out w7 (HO1.out.same HP7.out)
       obtain ⟨d0, d1, d2, d3, d4, d5, d6⟩ := HBd.out w7 (HQ7.out)
       cases sb with
       | false =>
        have hr2 : r = (8, yz.line) := by
         rw [← HRes.out]
         exact rulesD_con HZa.out HZj.out HXz.out (by unfold conCode; rw [HSb.out]; simp) (by first | decide | assumption)
        subst hr2
        go_wp2_with (refine wpList_store_row rfl 122 (.tmp 4) (.tmp 79) rfl (w.heap.size + 2) #[.int .u8 8, .int .i64 yz.line] rfl rfl 122 #[.int .u8 0, .int .i64 0] (HRr.out w7 HP7.out) (by kernel_rfl) rfl (by kernel_rfl) ?_)
        refine ret_prob (p := 4) rfl rfl rfl rfl (setRow_heap _ _ _ _ _ _ (HRr.out w7 HP7.out)) ?_
        exact ⟨rfl, (HOB.out.same (HO1.out.same HP7.out)).trans (only_setRow _ _ _) (fun k hk => .inr (by omega))⟩
       | true =>
        have hr2 : r = (7, yz.line) := by
         rw [← HRes.out]
         exact rulesD_con HZa.out HZj.out HXz.out (by unfold conCode; rw [HSb.out, HE0.out, if_neg (by simp), if_neg (by simp), if_pos HFl.out]) (by first | decide | assumption)
        subst hr2
        go_wp2_with (refine wpList_store_row rfl 122 (.tmp 4) (.tmp 79) rfl (w.heap.size + 2) #[.int .u8 7, .int .i64 yz.line] rfl rfl 122 #[.int .u8 0, .int .i64 0] (HRr.out w7 HP7.out) (by kernel_rfl) rfl (by kernel_rfl) ?_)
        refine ret_prob (p := 4) rfl rfl rfl rfl (setRow_heap _ _ _ _ _ _ (HRr.out w7 HP7.out)) ?_
        exact ⟨rfl, (HOB.out.same (HO1.out.same HP7.out)).trans (only_setRow _ _ _) (fun k hk => .inr (by omega))⟩
      ·have HFl : Hid (0 ≤ x.find yz.with'.name) := by rw [hf, Hid]; omega
       clear hf
       go_wp2_with fail
       refine (HSt.out w6 (HO1.out.same HP6.out)).mono ?_
       rintro e w7 ⟨rfl, O1⟩
       have HP7 := Lib.hid (HP6.out.same O1)
       have HQ7 : Hid (Only (fun _ => False) W4 w7) := HQ6.out.same O1
       clear O1 k0 k1 k2 k3 k4 k5 k6 k7 k8 k9 d0 d1 d2 d3 d4 d5 d6
       obtain ⟨k0, k1, k2, k3, k4, k5, k6, k7, k8, k9⟩ := HBox.out w7 (HO1.out.same HP7.out)
       obtain ⟨d0, d1, d2, d3, d4, d5, d6⟩ := HBd.out w7 (HQ7.out)
       cases sb with
       | false =>
        have hr2 : r = (8, yz.line) := by
         rw [← HRes.out]
         exact rulesD_con HZa.out HZj.out HXz.out (by unfold conCode; rw [HSb.out]; simp) (by first | decide | assumption)
        subst hr2
        go_wp2_with (refine wpList_store_row rfl 122 (.tmp 4) (.tmp 79) rfl (w.heap.size + 2) #[.int .u8 8, .int .i64 yz.line] rfl rfl 122 #[.int .u8 0, .int .i64 0] (HRr.out w7 HP7.out) (by kernel_rfl) rfl (by kernel_rfl) ?_)
        refine ret_prob (p := 4) rfl rfl rfl rfl (setRow_heap _ _ _ _ _ _ (HRr.out w7 HP7.out)) ?_
        exact ⟨rfl, (HOB.out.same (HO1.out.same HP7.out)).trans (only_setRow _ _ _) (fun k hk => .inr (by omega))⟩
       | true =>
        by_cases c0 : c = 0
        ·subst c0
         have hcode : conCode x p yz = 0 := by
          unfold conCode
          rw [HSb.out, HE0.out, if_neg (by simp), if_neg (by simp), if_neg (by have := HFl.out; omega), HC.out]
         have HZ3 : Hid (∀ d ∈ p.cons.take (j + 1), conCode x p d = 0) := fun v hv => by
          rcases mem_take_snoc HXz.out hv with h | rfl
          ·exact HZj.out v h
          ·exact hcode
         go_wp2_with fail
         go_roundw
         case rel => exact ⟨HP7, j + 1, by first | rfl | go_num, by omega, HZ3⟩
         case measure => simp [RowKit.intOf] <;> omega
        ·have c1 : ((c : Int) == 0) = false := by rw [beq_eq_false_iff_ne]; exact c0
         have hr2 : r = (c, yz.line) := by
          rw [← HRes.out]
          exact rulesD_con HZa.out HZj.out HXz.out (by unfold conCode; rw [HSb.out, HE0.out, if_neg (by simp), if_neg (by simp), if_neg (by have := HFl.out; omega), HC.out]) (by first | decide | assumption)
         subst hr2
         go_wp2_with (refine wpList_store_row rfl 122 (.tmp 4) (.tmp 79) rfl (w.heap.size + 2) #[.int .u8 c, .int .i64 yz.line] rfl rfl 122 #[.int .u8 0, .int .i64 0] (HRr.out w7 HP7.out) (by kernel_rfl) rfl (by kernel_rfl) ?_)
         refine ret_prob (p := 4) rfl rfl rfl rfl (setRow_heap _ _ _ _ _ _ (HRr.out w7 HP7.out)) ?_
         exact ⟨rfl, (HOB.out.same (HO1.out.same HP7.out)).trans (only_setRow _ _ _) (fun k hk => .inr (by omega))⟩
    ·obtain rfl : n_p_cons = j := by omega
     have hr2 : r = (0, 0) := by
      rw [← HRes.out]
      refine rulesD_nil HZa.out fun d hd => HZj.out d ?_
      rw [List.take_of_length_le (Nat.le_of_eq N_p_cons.out)]
      exact hd
     subst hr2
     go_wp2_with (refine wpList_store_row rfl 122 (.tmp 4) (.tmp 81) rfl (w.heap.size + 2) #[.int .u8 0, .int .i64 0] rfl rfl 122 #[.int .u8 0, .int .i64 0] (HRr.out wrj HPj.out) (by kernel_rfl) rfl (by kernel_rfl) ?_)
     refine ret_prob (p := 4) rfl rfl rfl rfl (setRow_heap _ _ _ _ _ _ (HRr.out wrj HPj.out)) ?_
     exact ⟨rfl, (HOB.out.same (HO1.out.same HPj.out)).trans (only_setRow _ _ _) (fun k hk => .inr (by omega))⟩
end
end Go.Proofs.YtbapkcnfacklaaaGreat

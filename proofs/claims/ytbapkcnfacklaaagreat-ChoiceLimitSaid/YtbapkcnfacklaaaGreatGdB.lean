/- Gd7 Gd8, in one text. -/
import Derived.Test.YtbapkcnfacklaaaGreatGdA
import Derived.Test.YtbapkcnfacklaaaGreatRfC
import Derived.Test.YtbapkcnfacklaaaGreatChA
import Derived.Test.YtbapkcnfacklaaaGreatChB
import Derived.Test.YtbapkcnfacklaaaGreatStepA
import Derived.Test.YtbapkcnfacklaaaGreatRegs
import Derived.Test.YtbapkcnfacklaaaGreatChP
import Derived.Test.YtbapkcnfacklaaaGreatChC
import Derived.Laws.ResultCell
import Derived.Deep.MidRow
set_option linter.unusedVariables false
namespace Go.Proofs.YtbapkcnfacklaaaGreat
open Go.RowKit
section
variable {w w' : World} {B : Nat}
theorem slC : SlT Tryz.prog 60 106 2 32 := SlT.mk' (z := .agg #[.int .i64 0, nilS]) Tryz.underlying60 (by kernel_rfl) rfl (by decide)
theorem own_ne_block {e t : TypeId} {s n b : Nat} {v : Value} {xs : List Value} {c : Array Value} {f : Nat × Nat} (hne : e ≠ t) (h : w.ownsRow 0 e s v n xs) (hb : w.heap[b]? = some (.cells c t f)) : v.ownBlock ≠ some b := by
 intro h2
 rcases h.2 with ⟨rfl, _⟩ | ⟨g, cap, cur, rfl, -, hg, -⟩
 ·cases h2
 ·simp only [Value.ownBlock, Option.some.injEq] at h2
  subst h2
  rw [hb] at hg
  simp only [Option.some.injEq, Obj.cells.injEq] at hg
  exact hne hg.2.1.symm
def flatC (P : List (CD × Value)) : List Value := P.flatMap fun p => [.int .i64 p.1.rel, p.2]
theorem flatC_app (a b : List (CD × Value)) : flatC (a ++ b) = flatC a ++ flatC b := List.flatMap_append
theorem flatC_get (l : List (CD × Value)) {i j : Nat} (hi : i < l.length) (hj : j < 2) : (flatC l)[i * 2 + j]? = [Value.int .i64 (l[i]'hi).1.rel, (l[i]'hi).2][j]? := by
 unfold flatC
 induction l generalizing i with
 | nil => simp at hi
 | cons x r ih =>
  rw [List.flatMap_cons]
  cases i with
  | zero => rw [Nat.zero_mul, Nat.zero_add, List.getElem?_append_left (by simpa using hj)]; rfl
  | succ i =>
   rw [List.getElem?_append_right (by simp; omega)]
   rw [show (i + 1) * 2 + j - [Value.int .i64 x.1.rel, x.2].length = i * 2 + j by simp; omega, ih (by simpa using hi)]
   simp
structure CRow (w0 w : World) (v : Value) (P : List (CD × Value)) : Prop where
 own : w.ownsRow 0 106 2 v P.length (flatC P)
 new : ∀ k, v.ownBlock = some k → w0.heap.size ≤ k
 vals : ∀ p ∈ P, w.ownsRow 0 3 1 p.2 p.1.vals.length (p.1.vals.map cI)
 rng : ∀ p ∈ P, InI64 p.1.rel ∧ ∀ z ∈ p.1.vals, InI64 z
theorem CRow.only {w0 w1 w2 : World} {v : Value} {P : List (CD × Value)} {F : Nat → Prop} (h : CRow w0 w1 v P) (ho : Only F w1 w2) (hF : ∀ k, F k → w1.heap.size ≤ k) : CRow w0 w2 v P :=
 ⟨own_only h.own ho (fun k hk f => by have := own_lt h.own hk; have := hF k f; omega), h.new, fun p hp => own_only (h.vals p hp) ho (fun k hk f => by have := own_lt (h.vals p hp) hk; have := hF k f; omega), h.rng⟩
theorem CRow.app {w0 w1 w2 : World} {v v' : Value} {P : List (CD × Value)} {c : CD} {vv : Value} (h : CRow w0 w1 v P) (hs : w0.heap.size ≤ w1.heap.size) (s1 : w2.ownsRow 0 106 2 v' (P.length + 1) (flatC P ++ [.int .i64 c.rel, vv])) (o : Only (fun k => v.ownBlock = some k) w1 w2) (a : AppTo w1 v v' (P.length + 1)) (hv : w1.ownsRow 0 3 1 vv c.vals.length (c.vals.map cI)) (hr : InI64 c.rel ∧ ∀ z ∈ c.vals, InI64 z) : CRow w0 w2 v' (P ++ [(c, vv)]) := by
 have ne : ∀ {vv n xs}, w1.ownsRow 0 3 1 vv n xs → w2.ownsRow 0 3 1 vv n xs := fun hh => own_only hh o (fun k hk f => by
  rcases h.own.2 with ⟨e, _⟩ | ⟨g, cap, cur, e, -, hg, -⟩
  ·rw [e] at f; cases f
  ·rw [e] at f
   simp only [Value.ownBlock, Option.some.injEq] at f
   subst f
   exact own_ne_block (by decide) hh hg hk)
 refine ⟨by rw [flatC_app]; simpa [flatC] using s1, fun k hk => ?_, fun p hp => ?_, fun p hp => ?_⟩
 ·obtain ⟨g, cap, rfl, -, -, hg⟩ := a
  simp only [Value.ownBlock, Option.some.injEq] at hk
  subst hk
  rcases hg with hg | hg
  ·exact h.new g hg
  ·omega
 ·rcases List.mem_append.1 hp with hp | hp
  ·exact ne (h.vals p hp)
  ·rw [List.mem_singleton.1 hp]; exact ne hv
 ·rcases List.mem_append.1 hp with hp | hp
  ·exact h.rng p hp
  ·rw [List.mem_singleton.1 hp]; exact hr
theorem CRow.put {w0 w1 : World} {v : Value} {P : List (CD × Value)} {b i : Nat} {c : Array Value} {f : Nat × Nat} {t : TypeId} (h : CRow w0 w1 v P) (hb : w1.heap[b]? = some (.cells c t f)) (h1 : 106 ≠ t) (h2 : 3 ≠ t) (u : Value) : CRow w0 (w1.setCell ⟨b, i, none⟩ u) v P := by
 have o : Only (fun k => k = b) w1 (w1.setCell ⟨b, i, none⟩ u) := (Only.refl (fun k => k = b) w1).setCell (p := ⟨b, i, none⟩) (.inl rfl) _
 exact ⟨own_only h.own o (fun k hk e => own_ne_block h1 h.own hb (by rw [← e]; exact hk)), h.new, fun p hp => own_only (h.vals p hp) o (fun k hk e => own_ne_block h2 (h.vals p hp) hb (by rw [← e]; exact hk)), h.rng⟩
theorem CRow.read {w0 : World} {v : Value} {P : List (CD × Value)} (h : CRow w0 w v P) : RowT 2 CC w.heap.size w v (P.map Prod.fst) := by
 have h0 : w.ownsRow 0 106 2 v (P.map Prod.fst).length (flatC P) := by rw [List.length_map]; exact h.own
 refine RowT.of_own h0 fun i hi => ?_
 rw [List.length_map] at hi
 have hm : P[i] ∈ P := List.getElem_mem hi
 refine ⟨[.int .i64 P[i].1.rel, P[i].2], rfl, fun j u hu => ?_, ?_⟩
 ·have hj : j < 2 := (List.getElem?_eq_some_iff.1 hu).1
  rw [flatC_get P hi hj]
  exact hu
 ·rw [List.getElem_map]
  have hv := h.vals _ hm
  refine ⟨P[i].2, rfl, (h.rng _ hm).1, ?_⟩
  refine RowT.of_own hv fun j hj => ⟨[.int .i64 P[i].1.vals[j]], rfl, fun a u hu => ?_, rfl, (h.rng _ hm).2 _ (List.getElem_mem hj)⟩
  obtain rfl : a = 0 := by have := (List.getElem?_eq_some_iff.1 hu).1; simpa using this
  simp at hu
  subst hu
  simp [hj]
theorem ofTo_bound (x : RecD) (l : List Nat) (by_ : List Nat) (hv : ∀ p ∈ x.packs, p.vars.length ≤ 1000) : ∀ i, i ≤ x.packs.length → (ofTo x l by_ i).2 ≤ i * 1001
 | 0, _ => Nat.zero_le _
 | i + 1, hi => by
  have ih := ofTo_bound x l by_ hv i (by omega)
  have h1 := hv (x.pack i) (RecD.pack_mem (by omega))
  have h2 : (ofOne by_ (ofTo x l by_ i).2 (x.pack i) (decide (i ∈ l))).2 ≤ (ofTo x l by_ i).2 + 1 + (x.pack i).vars.length := by
   unfold ofOne
   split
   ·exact Nat.le_refl _
   ·exact Nat.le_trans (Nat.le_add_right _ 1) (Nat.le_add_right _ _)
  rw [ofTo]
  exact Nat.le_trans h2 (by omega)
theorem pickN_le {by_ : List Nat} {a n b : Nat} (h : n ≤ b) : pickN by_ a n ≤ b := by
 unfold pickN
 split
 ·rename_i hh
  have := Nat.mod_lt (by_.getD a 0) hh.2
  omega
 ·omega
theorem ret_G {fn : Func} {p : Tmp} {Q : Ending → World → Prop} {a : Act} {W : World} {B : Nat} {cs : Array Value} (hf : fn.results = #[.cell p 62]) (hp : a.tmps.getD p undef = .pointer (some ⟨B, 0, none⟩)) (hd : a.defers = []) (hs : cs.size = 5) (hg : W.heap[B]? = some (.cells cs 62 (0, 0)))
  (h : Q (.returned (.agg cs)) W) : bodyPost Tryz.prog fn Q Exit.ret a W := by
 refine bodyPost_ret (v := .agg cs) ?_ hd h
 rw [results_cell hf, hp]
 simp only [asAddr, Sem.run_pure, Result.andThen_ok]
 exact run_loadVar_row W B 62 62 cs (0, 0) _ hg Tryz.underlying62 rfl (by rw [hs]; kernel_rfl)
set_option maxRecDepth 100000 in
set_option maxHeartbeats 4000000 in
theorem Of_any {csx : List Value} {x : RecD} (hx : RecC B w csx x) {csq : List Value} {q : ReqD} (hq : ReqC B w csq q) {vby_ : Value} {by_ : List Nat} (hby_ : RowT 1 U8C B w vby_ by_) (hm : MidRec x) (hlt : ∀ p ∈ x.closure q.names, p < x.packs.length) (hBw : B ≤ w.heap.size) :
  Calls Tryz.prog 14 #[.agg csx.toArray, .agg csq.toArray, vby_] w fun e w' => ∃ cs : List Value, e = .returned (.agg cs.toArray) ∧ GC w'.heap.size w' cs (gOf x q (x.closure q.names) by_) ∧ Only (fun _ => False) w w' := by
 obtain ⟨l, hl⟩ : ∃ l, x.closure q.names = l := ⟨_, rfl⟩
 rw [hl] at hlt ⊢
 have HL := Lib.hid hl
 have HMd := Lib.hid hm
 have hpx := hm.packs
 clear hl
 have HH_x := Lib.hid hx
 obtain ⟨u1, u2, rfl, r1, r2⟩ := hx
 obtain ⟨a_x_packs, c_x_packs, rfl, g_x_packs, h_x_packs⟩ := r1.shape
 obtain ⟨n_x_packs, e1⟩ : ∃ n, x.packs.length = n := ⟨_, rfl⟩
 have N_x_packs := Lib.hid e1
 obtain ⟨a_x_prefs, c_x_prefs, rfl, g_x_prefs, h_x_prefs⟩ := r2.shape
 obtain ⟨n_x_prefs, e2⟩ : ∃ n, x.prefs.length = n := ⟨_, rfl⟩
 have N_x_prefs := Lib.hid e2
 rw [e1, e2] at HH_x
 rw [e1] at r1 g_x_packs
 have RR_x_packs := Lib.hid r1
 rw [e2] at r2 g_x_prefs
 have RR_x_prefs := Lib.hid r2
 rw [e1, e2]
 clear e1 e2 r1 r2
 have HH_q := Lib.hid hq
 obtain ⟨u1, rfl, r1⟩ := hq
 obtain ⟨a_q_roots, c_q_roots, rfl, g_q_roots, h_q_roots⟩ := r1.shape
 obtain ⟨n_q_roots, e1⟩ : ∃ n, q.roots.length = n := ⟨_, rfl⟩
 have N_q_roots := Lib.hid e1
 rw [e1] at HH_q
 rw [e1] at r1 g_q_roots
 have RR_q_roots := Lib.hid r1
 rw [e1]
 clear e1 r1
 obtain ⟨a_by_, c_by_, rfl, g_by_, g2_by_⟩ := hby_.shape
 obtain ⟨n_by_, e1⟩ : ∃ n, by_.length = n := ⟨_, rfl⟩
 have N_by_ := Lib.hid e1
 rw [e1] at hby_ g_by_ ⊢
 have RR_by_ := Lib.hid hby_
 clear e1 hby_
 obtain ⟨W0, hW0⟩ : ∃ W0, W0 = ((w.alloc (.cells #[.slice a_x_packs n_x_packs c_x_packs, .slice a_x_prefs n_x_prefs c_x_prefs] 25)).alloc (.cells #[.slice a_q_roots n_q_roots c_q_roots] 28)) := ⟨_, rfl⟩
 have HOB : Hid (Only (fun _ => False) w W0) := by rw [hW0]; exact ((Only.refl _ _).alloc _).alloc _
 have HSz : Hid (W0.heap.size = w.heap.size + 2) := by rw [hW0]; simp [Hid]
 have HBox : Hid (∀ W, Only (fun _ => False) W0 W → W.cell? ⟨w.heap.size, 0, none⟩ = some (.slice a_x_packs n_x_packs c_x_packs) ∧ W.cell? ⟨w.heap.size, 1, none⟩ = some (.slice a_x_prefs n_x_prefs c_x_prefs) ∧ W.cell? ⟨w.heap.size + 1, 0, none⟩ = some (.slice a_q_roots n_q_roots c_q_roots)) := fun W ho => by
  have b0 : W0.heap[w.heap.size]? = some (.cells #[.slice a_x_packs n_x_packs c_x_packs, .slice a_x_prefs n_x_prefs c_x_prefs] 25) := by rw [hW0]; exact alloc_block (alloc_at rfl) _
  have d0 := only_block b0 ho (fun f => f)
  have b1 : W0.heap[w.heap.size + 1]? = some (.cells #[.slice a_q_roots n_q_roots c_q_roots] 28) := by rw [hW0]; exact alloc_at (by simp)
  have d1 := only_block b1 ho (fun f => f)
  exact ⟨by rw [cell_block d0]; rfl, by rw [cell_block d0]; rfl, by rw [cell_block d1]; rfl⟩
 have HK_x : Hid (∀ W, Only (fun _ => False) W0 W → RecC B W [.slice a_x_packs n_x_packs c_x_packs, .slice a_x_prefs n_x_prefs c_x_prefs] x) := fun W ho => RecC.keep HH_x.out (Kp.of0 (HOB.out.same ho) : Kp B w W)
 have HR_x_packs : Hid (∀ W, Only (fun _ => False) W0 W → RowT 8 PackC B W (.slice a_x_packs n_x_packs c_x_packs) x.packs) := fun W ho => RR_x_packs.out.keep PackC.keep (Kp.of0 (HOB.out.same ho))
 clear RR_x_packs
 have HR_x_prefs : Hid (∀ W, Only (fun _ => False) W0 W → RowT 3 PrefC B W (.slice a_x_prefs n_x_prefs c_x_prefs) x.prefs) := fun W ho => RR_x_prefs.out.keep PrefC.keep (Kp.of0 (HOB.out.same ho))
 clear RR_x_prefs
 clear HH_x
 have HK_q : Hid (∀ W, Only (fun _ => False) W0 W → ReqC B W [.slice a_q_roots n_q_roots c_q_roots] q) := fun W ho => ReqC.keep HH_q.out (Kp.of0 (HOB.out.same ho) : Kp B w W)
 have HR_q_roots : Hid (∀ W, Only (fun _ => False) W0 W → RowT 4 RootC B W (.slice a_q_roots n_q_roots c_q_roots) q.roots) := fun W ho => RR_q_roots.out.keep RootC.keep (Kp.of0 (HOB.out.same ho))
 clear RR_q_roots
 clear HH_q
 have HR_by_ : Hid (∀ W, Only (fun _ => False) W0 W → RowT 1 U8C B W (.slice a_by_ n_by_ c_by_) by_) := fun W ho => RR_by_.out.keep U8C.keep (Kp.of0 (HOB.out.same ho))
 clear RR_by_
 rw [N_x_packs.out] at hpx hlt
 have HLt := Lib.hid hlt
 have HPk : Hid (∀ a n : Nat, a ≤ 100000000 → n ≤ 100000000 → ∀ W, Only (fun _ => False) W0 W → Calls Tryz.prog 44 #[.slice a_by_ n_by_ c_by_, .int .i64 (a : Int), .int .i64 (n : Int)] W fun e w' => e = .returned (.int .i64 (pickN by_ a n : Int)) ∧ Only (fun _ => False) W w') := fun a n h1 h2 W hW => pick_any (HR_by_.out W hW) a n h1 h2
 obtain ⟨W1, hW1⟩ : ∃ W, W = (W0.alloc (.cells #[nilS, nilS, nilS, nilS, nilS] 62)).alloc (.cells #[.slice a_x_packs n_x_packs c_x_packs, .slice a_x_prefs n_x_prefs c_x_prefs, .slice a_q_roots n_q_roots c_q_roots, nilS, nilS] 62) := ⟨_, rfl⟩
 have HO1 : Hid (Only (fun _ => False) W0 W1) := by rw [hW1]; exact ((Only.refl _ _).alloc _).alloc _
 have HS1 : Hid (W1.heap.size = w.heap.size + 4) := by rw [hW1]; have := HSz.out; simp [Hid]; omega
 have H71 : Hid (W1.heap[(w.heap.size + 1 + 1 + 1)]? = some (.cells #[.slice a_x_packs n_x_packs c_x_packs, .slice a_x_prefs n_x_prefs c_x_prefs, .slice a_q_roots n_q_roots c_q_roots, nilS, nilS] 62)) := by rw [hW1]; exact alloc_at (by simp [HSz.out])
 have H61 : Hid (W1.heap[(w.heap.size + 1 + 1)]? = some (.cells #[nilS, nilS, nilS, nilS, nilS] 62)) := by rw [hW1]; exact alloc_block (alloc_at (by simp [HSz.out])) _
 have HCl := Lib.hid (Closure10_any (HK_x.out W1 HO1.out) (HK_q.out W1 HO1.out) (by rw [N_x_packs.out]; omega))
 rw [HL.out] at HCl
 clear hm hlt
 obtain ⟨k0, k1, k2⟩ := HBox.out W0 (Only.refl _ _)
 rw [hW0] at k0 k1 k2
 obtain ⟨m0, m1, m2⟩ := HBox.out W1 HO1.out
 rw [hW1, hW0] at m0 m1 m2
 go_enter Tryz.func14, Tryz.ntmps14
 go_wp2_with fail
 rw [← hW0, ← hW1]
 clear hW0 hW1 k0 k1 k2 m0 m1 m2
 refine HCl.out.mono ?_
 rintro e W2 ⟨vl, rfl, hvl, hvf, O2⟩
 have HO2 := Lib.hid (HO1.out.same O2)
 have hI1 : Ints W2 vl (intsOf l) := ints_of_nats hvl fun i hi => by have := HLt.out i hi; omega
 have hvlt : ∀ k, vl.ownBlock = some k → W1.heap.size ≤ k ∧ k < W2.heap.size := fun k hk => ⟨hvf k hk, own_lt hvl hk⟩
 obtain ⟨F1, hF1⟩ : ∃ F1 : Nat → Prop, F1 = fun k => k = (w.heap.size + 1 + 1 + 1) ∨ W2.heap.size ≤ k := ⟨_, rfl⟩
 have HF1 : Hid (∀ k, (k = (w.heap.size + 1 + 1 + 1) ∨ W2.heap.size ≤ k) → F1 k) := fun k hk => by rw [hF1]; exact hk
 have hs2 := O2.size
 have HF6 : Hid (F1 (w.heap.size + 1 + 1) → False) := fun f => by
  rw [hF1] at f
  have := HS1.out
  rcases f with f | f <;> omega
 have HUp : Hid (∀ W, Only F1 W2 W → Only (fun _ => False) W0 W) := fun W hW => HO2.out.trans hW (fun k hk => .inr (by
  rw [hF1] at hk
  have := HS1.out
  have := HSz.out
  rcases hk with hk | hk <;> omega))
 have HIl : Hid (∀ W, Only F1 W2 W → Ints W vl (intsOf l)) := fun W hW => hI1.only hW (fun b hb hf => by
  rw [hF1] at hf
  obtain ⟨ao, cp, rfl, -, -⟩ := own_slice hvl
  cases ao with
  | none => cases hb
  | some ad =>
   have hh := hvlt b hb
   have := HS1.out
   rcases hf with hf | hf <;> omega)
 have H72 : Hid (W2.heap[(w.heap.size + 1 + 1 + 1)]? = some (.cells #[.slice a_x_packs n_x_packs c_x_packs, .slice a_x_prefs n_x_prefs c_x_prefs, .slice a_q_roots n_q_roots c_q_roots, nilS, nilS] 62)) := only_block H71.out O2 (fun f => f)
 have H6 : Hid (W2.heap[(w.heap.size + 1 + 1)]? = some (.cells #[nilS, nilS, nilS, nilS, nilS] 62)) := only_block H61.out O2 (fun f => f)
 have HR2 : Hid (CRow W2 W2 nilS []) := ⟨World.ownsRow_nil _ _ _ _, fun k hk => (by cases hk), fun p hp => (by cases hp), fun p hp => (by cases hp)⟩
 have HOC : Hid (Only F1 W2 W2) := Only.refl _ _
 obtain ⟨avl, cvl, rfl, -, -⟩ := own_slice hvl
 obtain ⟨nl, hnl⟩ : ∃ n, l.length = n := ⟨_, rfl⟩
 rw [hnl] at HIl ⊢
 clear hvl hvf hI1 O2 hF1 hvlt HCl H71 H61 hs2 hnl
 obtain ⟨k0, k1, k2⟩ := HBox.out W2 (HUp.out W2 (Only.refl _ _))
 go_wp2_with fail
 clear k0 k1 k2
 go_loopw [9, 23] (fun vn vi wri => Hid (Only F1 W2 wri) ∧ ∃ (i : Nat) (vC : Value) (P : List (CD × Value)) (m : Nat), vi = .int .i64 i ∧ i ≤ n_x_packs ∧ vn = .int .i64 m ∧ Hid ((ofTo x l by_ i).2 = m) ∧ Hid (P.length = i) ∧ Hid (P.map Prod.fst = (ofTo x l by_ i).1) ∧ Hid (wri.heap[(w.heap.size + 1 + 1 + 1)]? = some (.cells #[.slice a_x_packs n_x_packs c_x_packs, .slice a_x_prefs n_x_prefs c_x_prefs, .slice a_q_roots n_q_roots c_q_roots, vC, nilS] 62)) ∧ Hid (CRow W2 wri vC P)) (fun _ v _ => n_x_packs - (RowKit.intOf v).toNat)
 case atStart => exact ⟨HOC, 0, nilS, [], 0, rfl, Nat.zero_le _, rfl, show Hid _ from rfl, show Hid _ from rfl, show Hid _ from rfl, H72, HR2⟩
 case round =>
  obtain ⟨wri, rfl⟩ : ∃ W, W = wr := ⟨_, rfl⟩
  clear HOC H72 HR2
  obtain ⟨HOi, i, vC, P, m, rfl, hi, rfl, HN, HPl, HPm, H7, HR⟩ := hrel
  obtain ⟨k0, k1, k2⟩ := HBox.out wri (HUp.out wri HOi.out)
  by_cases ci : i < n_x_packs
  ·have ewi : IntKind.i64.wrap ((i : Int) + 1) = (i : Int) + 1 := by rw [IntKind.wrap_i64]; omega
   obtain ⟨yy, hxy⟩ : ∃ y, x.packs[i]? = some y := ⟨_, List.getElem?_eq_getElem (by rw [N_x_packs.out]; omega)⟩
   obtain ⟨bky, offy, ay1, ny1, cy1, ay2, ny2, cy2, ay3, ny3, cy3, ay4, ny4, cy4, ay5, ny5, cy5, ay6, ny6, cy6, hey, N0y1, N0y2, N0y3, N0y4, N0y5, N0y6, oky1, iny1, HE0y⟩ := PackC_at (HR_x_packs.out W0 (Only.refl _ _)) hxy
   first
    | subst hey
    | (simp only [Option.some.injEq, Addr.mk.injEq, and_true] at hey; obtain ⟨rfl, rfl⟩ := hey)
   have Ny1 := Lib.hid N0y1
   have Ny2 := Lib.hid N0y2
   have Ny3 := Lib.hid N0y3
   have Ny4 := Lib.hid N0y4
   have Ny5 := Lib.hid N0y5
   have Ny6 := Lib.hid N0y6
   have HEy := Lib.hid HE0y
   have HXy := Lib.hid hxy
   clear HE0y hxy N0y1 N0y2 N0y3 N0y4 N0y5 N0y6
   have HRy1 : Hid (∀ W, Only (fun _ => False) W0 W → RowT 2 RelC B W (.slice ay1 ny1 cy1) yy.rels) := fun W ho => (HEy.out W ho).2.1
   have HRy2 : Hid (∀ W, Only (fun _ => False) W0 W → RowT 2 VarC B W (.slice ay2 ny2 cy2) yy.vars) := fun W ho => (HEy.out W ho).2.2.1
   have HRy3 : Hid (∀ W, Only (fun _ => False) W0 W → RowT 1 StrC B W (.slice ay3 ny3 cy3) yy.provides) := fun W ho => (HEy.out W ho).2.2.2.1
   have HRy4 : Hid (∀ W, Only (fun _ => False) W0 W → RowT 7 DepC B W (.slice ay4 ny4 cy4) yy.deps) := fun W ho => (HEy.out W ho).2.2.2.2.1
   have HRy5 : Hid (∀ W, Only (fun _ => False) W0 W → RowT 7 ConC B W (.slice ay5 ny5 cy5) yy.cons) := fun W ho => (HEy.out W ho).2.2.2.2.2.1
   have HRy6 : Hid (∀ W, Only (fun _ => False) W0 W → RowT 1 StrC B W (.slice ay6 ny6 cy6) yy.files) := fun W ho => (HEy.out W ho).2.2.2.2.2.2.1
   have HCy : Hid (∀ W, Only (fun _ => False) W0 W → PackC B W [.string yy.name, .int .i64 yy.line, .slice ay1 ny1 cy1, .slice ay2 ny2 cy2, .slice ay3 ny3 cy3, .slice ay4 ny4 cy4, .slice ay5 ny5 cy5, .slice ay6 ny6 cy6] yy) := fun W ho => (HEy.out W ho).2.2.2.2.2.2.2
   have HPg : Hid (x.pack i = yy) := by unfold RecD.pack; rw [List.getD_eq_getElem?_getD, HXy.out]; exact rfl
   have hmem : yy ∈ x.packs := List.mem_of_getElem? HXy.out
   have hrl : ny1 ≤ 1000 := by rw [← Ny1.out]; exact HMd.out.rels yy hmem
   have hvl : ny2 ≤ 1000 := by rw [← Ny2.out]; exact HMd.out.vars yy hmem
   have HMv : Hid (∀ v ∈ yy.vars, v.values.length ≤ 1000) := HMd.out.vals yy hmem
   have hmb : m ≤ 1001000 := by
    have := ofTo_bound x l by_ HMd.out.vars i (by rw [N_x_packs.out]; omega)
    rw [HN.out] at this
    have := Nat.mul_le_mul_right 1001 (show i ≤ 1000 by omega)
    omega
   obtain ⟨ac, cc, rfl, -, -⟩ : ∃ ac cc, vC = .slice ac i cc ∧ True ∧ True := by
    obtain ⟨a, c, e, -, -⟩ := own_slice HR.out.own
    rw [HPl.out] at e
    exact ⟨a, c, e, trivial, trivial⟩
   obtain ⟨bi, hbi⟩ : ∃ b, decide (i ∈ l) = b := ⟨_, rfl⟩
   have HBi := Lib.hid hbi
   clear hmem
   have hry := Lib.hid (HEy.out wri (HUp.out wri HOi.out)).1
   obtain ⟨W3, hW3⟩ : ∃ W, W = wri.alloc (.cells #[.string yy.name, .int .i64 yy.line, .slice ay1 ny1 cy1, .slice ay2 ny2 cy2, .slice ay3 ny3 cy3, .slice ay4 ny4 cy4, .slice ay5 ny5 cy5, .slice ay6 ny6 cy6] 43) := ⟨_, rfl⟩
   have HP3 : Hid (Only (fun _ => False) wri W3) := by rw [hW3]; exact (Only.refl _ _).alloc _
   have HBd : Hid (∀ W, Only (fun _ => False) W3 W → W.cell? ⟨wri.heap.size, 0, none⟩ = some (.string yy.name) ∧ W.cell? ⟨wri.heap.size, 1, none⟩ = some (.int .i64 yy.line) ∧ W.cell? ⟨wri.heap.size, 2, none⟩ = some (.slice ay1 ny1 cy1) ∧ W.cell? ⟨wri.heap.size, 3, none⟩ = some (.slice ay2 ny2 cy2) ∧ W.cell? ⟨wri.heap.size, 4, none⟩ = some (.slice ay3 ny3 cy3) ∧ W.cell? ⟨wri.heap.size, 5, none⟩ = some (.slice ay4 ny4 cy4) ∧ W.cell? ⟨wri.heap.size, 6, none⟩ = some (.slice ay5 ny5 cy5) ∧ W.cell? ⟨wri.heap.size, 7, none⟩ = some (.slice ay6 ny6 cy6)) := fun W ho => by
    have b0 : W3.heap[wri.heap.size]? = some (.cells #[.string yy.name, .int .i64 yy.line, .slice ay1 ny1 cy1, .slice ay2 ny2 cy2, .slice ay3 ny3 cy3, .slice ay4 ny4 cy4, .slice ay5 ny5 cy5, .slice ay6 ny6 cy6] 43) := by rw [hW3]; exact heap_alloc_new wri _
    have b1 := only_block b0 ho (fun f => f)
    exact ⟨by rw [cell_block b1]; rfl, by rw [cell_block b1]; rfl, by rw [cell_block b1]; rfl, by rw [cell_block b1]; rfl, by rw [cell_block b1]; rfl, by rw [cell_block b1]; rfl, by rw [cell_block b1]; rfl, by rw [cell_block b1]; rfl⟩
   have HS3 : Hid (W3.heap.size = wri.heap.size + 1) := by rw [hW3]; simp [Hid]
   have HUp3 : Hid (∀ W, Only (fun _ => False) W3 W → Only (fun _ => False) W0 W) := fun W hW => HUp.out W (HOi.out.trans (HP3.out.same hW) (fun _ f => f.elim))
   have HIl3 : Hid (∀ W, Only (fun _ => False) W3 W → Ints W (.slice avl nl cvl) (intsOf l)) := fun W hW => HIl.out W (HOi.out.trans (HP3.out.same hW) (fun _ f => f.elim))
   obtain ⟨W4, hW4⟩ : ∃ W, W = W3.alloc (.cells #[.int .i64 (-1), nilS] 106) := ⟨_, rfl⟩
   have HC4 : Hid (W4.heap[wri.heap.size + 1]? = some (.cells #[.int .i64 (-1), nilS] 106)) := by rw [hW4, ← HS3.out]; exact heap_alloc_new W3 _
   have HO4 : Hid (Only (fun _ => False) W3 W4) := by rw [hW4]; exact (Only.refl _ _).alloc _
   have HHs := Lib.hid (Has_any (w := W4) (HIl3.out W4 HO4.out) (i : Int))
   rw [contains_ints, hbi] at HHs
   clear hbi
   go_wp2_with (refine wpList_load_mid rfl 43 (.tmp 29) rfl bky (offy + i * 8) rfl _ _ hry.out Tryz.underlying43 rfl (by kernel_rfl) ?_)
   rw [← hW3]
   clear hW3 hry
   clear k0 k1 k2
   go_wp2_with fail
   rw [← hW4]
   clear hW4
   refine HHs.out.mono ?_
   rintro e w5 ⟨rfl, O5⟩
   have HO5 := Lib.hid (HO4.out.same O5)
   have HC5 : Hid (w5.heap[wri.heap.size + 1]? = some (.cells #[.int .i64 (-1), nilS] 106)) := only_block HC4.out O5 (fun f => f)
   clear O5 HHs HO4 HC4
   cases bi with
   | true =>
    have HNx : Hid (ofTo x l by_ (i + 1) = ((ofTo x l by_ i).1 ++ [⟨(pickN by_ m (ny1 + 1) : Int) - 1, valsTo by_ (m + 1) yy.vars ny2⟩], m + 1 + ny2)) := by
     rw [ofTo, HPg.out, HBi.out, HN.out]
     show ((ofTo x l by_ i).1 ++ [(ofOne by_ m yy true).1], (ofOne by_ m yy true).2) = _
     unfold ofOne
     rw [if_pos rfl, Ny1.out, Ny2.out]
    obtain ⟨pk, hpk⟩ : ∃ p, pickN by_ m (ny1 + 1) = p := ⟨_, rfl⟩
    have hpkl : pk < ny1 + 1 := by rw [← hpk]; exact pickN_lt (by omega)
    have HPk1 := Lib.hid (HPk.out m (ny1 + 1) (by omega) (by omega) w5 (HUp3.out _ HO5.out))
    rw [hpk] at HPk1 HNx
    obtain ⟨rr, hrr⟩ : ∃ r : Int, (pk : Int) - 1 = r := ⟨_, rfl⟩
    have ewr : IntKind.i64.wrap ((pk : Int) - 1) = rr := by rw [IntKind.wrap_i64]; omega
    have ewl : IntKind.i64.wrap ((ny1 : Int) + 1) = (ny1 : Int) + 1 := by rw [IntKind.wrap_i64]; omega
    have ewm0 : IntKind.i64.wrap ((m : Int) + 1) = (m : Int) + 1 := by rw [IntKind.wrap_i64]; omega
    rw [hrr] at HNx
    have hrr1 : -1 ≤ rr := by omega
    have hrr2 : rr ≤ 1000000 := by omega
    obtain ⟨-, -, d2, -, -⟩ := HBd.out w5 HO5.out
    clear hpk
    go_wp2_with fail
    refine HPk1.out.mono ?_
    rintro e w6 ⟨rfl, O6⟩
    have HO6 := Lib.hid (HO5.out.same O6)
    have qb := only_block HC5.out O6 (fun f => f)
    have qs0 := cell_block qb 0
    have qs1 := free_block qb 0
    clear d2
    obtain ⟨-, -, -, d3, -⟩ := HBd.out w6 HO6.out
    obtain ⟨W7, hW7⟩ : ∃ W, W = w6.setCell ⟨wri.heap.size + 1, 0, none⟩ (.int .i64 rr) := ⟨_, rfl⟩
    have HC7 : Hid (W7.heap[wri.heap.size + 1]? = some (.cells #[.int .i64 rr, nilS] 106)) := by rw [hW7, set_block qb]; rfl
    have HOC7 : Hid (Only (fun _ => False) W3 W7) := by rw [hW7]; exact HO6.out.setCell (p := ⟨wri.heap.size + 1, 0, none⟩) (.inr (Nat.le_of_eq HS3.out)) _
    have HV7 : Hid (W7.ownsRow 0 3 1 nilS 0 ((valsTo by_ (m + 1) yy.vars 0).map cI)) := World.ownsRow_nil _ _ _ _
    have d3' := (HBd.out W7 HOC7.out).2.2.2.1
    rw [hW7] at d3'
    clear O6 HPk1 HC5 HO5
    go_wp2_with fail
    rw [← hW7]
    clear hW7 d3 d3' qb qs0 qs1
    go_loopw [9, 49] (fun vn vk wrk => Hid (Only (fun _ => False) W3 wrk) ∧ ∃ (k mk : Nat) (vv : Value), vk = .int .i64 k ∧ k ≤ ny2 ∧ vn = .int .i64 mk ∧ mk = m + 1 + k ∧ Hid (wrk.heap[wri.heap.size + 1]? = some (.cells #[.int .i64 rr, vv] 106)) ∧ Hid (wrk.ownsRow 0 3 1 vv k ((valsTo by_ (m + 1) yy.vars k).map cI)) ∧ Hid (∀ kk, vv.ownBlock = some kk → W3.heap.size ≤ kk)) (fun _ v _ => ny2 - (RowKit.intOf v).toNat)
    case atStart => exact ⟨HOC7, 0, m + 1, nilS, rfl, Nat.zero_le _, by first | rfl | go_num, rfl, HC7, HV7, show Hid _ from fun kk hk => (by cases hk)⟩
    case round =>
     obtain ⟨wrk, rfl⟩ : ∃ W, W = wr := ⟨_, rfl⟩
     clear HOC7 HC7 HV7
     obtain ⟨HOk, k, mk, vv, rfl, hk, rfl, hmk, HC, HV, HVn⟩ := hrel
     by_cases ck : k < ny2
     ·have hmkb : mk ≤ 100000000 := by omega
      have HMk := Lib.hid hmk
      clear hmk
      have ewi : IntKind.i64.wrap ((k : Int) + 1) = (k : Int) + 1 := by rw [IntKind.wrap_i64]; omega
      have ewm : IntKind.i64.wrap ((mk : Int) + 1) = (mk : Int) + 1 := by rw [IntKind.wrap_i64]; omega
      obtain ⟨yz, hxz⟩ : ∃ y, yy.vars[k]? = some y := ⟨_, List.getElem?_eq_getElem (by rw [Ny2.out]; omega)⟩
      obtain ⟨bkz, offz, az1, nz1, cz1, hez, N0z1, okz1, HE0z⟩ := VarC_at (HRy2.out W0 (Only.refl _ _)) hxz
      first
       | subst hez
       | (simp only [Option.some.injEq, Addr.mk.injEq, and_true] at hez; obtain ⟨rfl, rfl⟩ := hez)
      have Nz1 := Lib.hid N0z1
      have HEz := Lib.hid HE0z
      have HXz := Lib.hid hxz
      clear HE0z hxz N0z1
      have HRz1 : Hid (∀ W, Only (fun _ => False) W0 W → RowT 1 StrC B W (.slice az1 nz1 cz1) yz.values) := fun W ho => (HEz.out W ho).2.1
      have HCz : Hid (∀ W, Only (fun _ => False) W0 W → VarC B W [.string yz.name, .slice az1 nz1 cz1] yz) := fun W ho => (HEz.out W ho).2.2
      have hvz := HMv.out yz (List.mem_of_getElem? HXz.out)
      rw [Nz1.out] at hvz
      have hnzb : nz1 ≤ 100000000 := Nat.le_trans hvz (by decide)
      have HSv : Hid (valsTo by_ (m + 1) yy.vars (k + 1) = valsTo by_ (m + 1) yy.vars k ++ [(pickN by_ mk nz1 : Int)]) := by
       rw [valsTo_succ, List.getD_eq_getElem?_getD, HXz.out, HMk.out]
       show _ ++ [(pickN by_ (m + 1 + k) yz.values.length : Int)] = _
       rw [Nz1.out]
      obtain ⟨av, cv, rfl, -, -⟩ := own_slice HV.out
      go_wp2_with fail
      have HU3 : Hid (∀ W, Only (fun kk => (Value.slice av k cv).ownBlock = some kk) wrk W → Only (fun _ => False) W3 W) := fun W hW => HOk.out.trans hW (fun kk hk => .inr (HVn.out kk hk))
      refine wp_region_G (n := 16) (E := fun k => k == 15) (S := fun W => Only (fun kk => (Value.slice av k cv).ownBlock = some kk) wrk W) (by kernel_rfl) rfl (by exact (Only.refl _ _).drew) (fun hHeld => ?_)
      refine tqW (i := 0) (v := ?_) rfl (.inr (by assumption)) ?_ ?_
      rotate_left
      ·(intro w; go_simp <;> (try with_reducible rfl))
      try simp only [Act.put, zq1, zq3, zq4, zq5, zq6]
      refine tqK (i := 1) (v := ?_) rfl ?_ ?_
      rotate_left
      ·(intro w hSw; have HU := HUp3.out w (HU3.out w hSw); have qb := only_block HC.out hSw (own_ne_block (by decide) HV.out HC.out); have qs0 := cell_block qb 1; obtain ⟨-, -, -, d3, -⟩ := HBd.out w (HU3.out w hSw); have hrz := (HEz.out w HU).1; have gz1 := hrz 1 _ rfl; clear hrz; go_simp <;> (try with_reducible rfl))
      try simp only [Act.put, zq1, zq2, zq3, zq4, zq5, zq6]
      refine tqW (i := 2) (v := ?_) rfl (.inr (by assumption)) ?_ ?_
      rotate_left
      ·(intro w; go_simp <;> (try with_reducible rfl))
      try simp only [Act.put, zq1, zq2, zq3, zq4, zq5, zq6]
      refine tqW (i := 3) (v := ?_) rfl (.inr (by assumption)) ?_ ?_
      rotate_left
      ·(intro w; go_simp <;> (try with_reducible rfl))
      try simp only [Act.put, zq1, zq2, zq3, zq4, zq5, zq6]
      refine tqW (i := 4) (v := ?_) rfl (.inr (by assumption)) ?_ ?_
      rotate_left
      ·(intro w; go_simp <;> (try with_reducible rfl))
      try simp only [Act.put, zq1, zq2, zq3, zq4, zq5, zq6]
      refine tqK (i := 5) (v := ?_) rfl ?_ ?_
      rotate_left
      ·(intro w hSw; have HU := HUp3.out w (HU3.out w hSw); have qb := only_block HC.out hSw (own_ne_block (by decide) HV.out HC.out); have qs0 := cell_block qb 1; obtain ⟨-, -, -, d3, -⟩ := HBd.out w (HU3.out w hSw); have hrz := (HEz.out w HU).1; have gz1 := hrz 1 _ rfl; clear hrz; go_simp <;> (try with_reducible rfl))
      try simp only [Act.put, zq1, zq2, zq3, zq4, zq5, zq6]
      refine tqW (i := 6) (v := ?_) rfl (.inr (by assumption)) ?_ ?_
      rotate_left
      ·(intro w; go_simp <;> (try with_reducible rfl))
      try simp only [Act.put, zq1, zq2, zq3, zq4, zq5, zq6]
      refine tqW (i := 7) (v := ?_) rfl (.inr (by assumption)) ?_ ?_
      rotate_left
      ·(intro w; go_simp <;> (try with_reducible rfl))
      try simp only [Act.put, zq1, zq2, zq3, zq4, zq5, zq6]
      refine tqW (i := 8) (v := ?_) rfl (.inr (by assumption)) ?_ ?_
      rotate_left
      ·(intro w; go_simp <;> (try with_reducible rfl))
      try simp only [Act.put, zq1, zq2, zq3, zq4, zq5, zq6]
      refine tqK (i := 9) (v := ?_) rfl ?_ ?_
      rotate_left
      ·(intro w hSw; have HU := HUp3.out w (HU3.out w hSw); have qb := only_block HC.out hSw (own_ne_block (by decide) HV.out HC.out); have qs0 := cell_block qb 1; obtain ⟨-, -, -, d3, -⟩ := HBd.out w (HU3.out w hSw); have hrz := (HEz.out w HU).1; have gz1 := hrz 1 _ rfl; clear hrz; go_simp <;> (try with_reducible rfl))
      try simp only [Act.put, zq1, zq2, zq3, zq4, zq5, zq6]
      refine tqW (i := 10) (v := ?_) rfl (.inr (by assumption)) ?_ ?_
      rotate_left
      ·(intro w; go_simp <;> (try with_reducible rfl))
      try simp only [Act.put, zq1, zq2, zq3, zq4, zq5, zq6]
      refine wpAnyG_ready (rs := [11]) (by kernel_rfl) (by simp) ?_
      refine AllReadyG.cons (i := 11) rfl (fun K hK => ?_) ?_
      ·(go_simp; refine (HPk.out mk nz1 hmkb hnzb _ (HUp3.out _ (HU3.out _ hHeld))).mono ?_; rintro e w5 ⟨rfl, o5⟩; try go_wp2_with fail)
       refine hK.out _ _ ?_ (fun hHeld => ?_)
       ·(try dsimp only) <;> (exact Only.same hHeld (o5.mono fun _ f => f.elim))
       clear hK K
       try simp only [Act.put, zq1, zq2, zq3, zq4, zq5, zq6]
       refine wpAnyG_ready (rs := [12]) (by kernel_rfl) (by simp) ?_
       refine AllReadyG.cons (i := 12) rfl (fun K hK => ?_) ?_
       ·go_simp
        refine hK.out _ _ ?_ (fun hHeld => ?_)
        ·(try dsimp only) <;> (exact Only.alloc hHeld _)
        clear hK K
        try simp only [Act.put, zq1, zq2, zq3, zq4, zq5, zq6]
        refine wpAnyG_ready (rs := [13]) (by kernel_rfl) (by simp) ?_
        refine AllReadyG.cons (i := 13) rfl (fun K hK => ?_) ?_
        ·(refine stepAN (news := [.int .i64 (pickN by_ mk nz1 : Int)]) slInt (by rfl) (.tmp 53) (.tmp 64) (by rfl) (by rfl) (own_only HV.out (((Only.refl (fun _ => False) _).drew.same o5).alloc _) (fun _ _ f => f)) (by rfl) (by rfl) (fun h => by cases h) (fun ad e j u hu => by cases e; rw [Go.WideShapes.add_plain]; exact rangeAt_new (cs := [.int .i64 (pickN by_ mk nz1 : Int)]) rfl j u hu) (by intro u hu; simp at hu; subst hu; rfl) (by omega) (by decide) ?_; intro ao5 cap5 w6 r5 o6 nr5)
         refine hK.out _ _ ?_ (fun hHeld => ?_)
         ·(try dsimp only) <;> (exact ((((Only.refl (fun _ => False) _).drew.same o5).alloc _).mono (fun _ f => f.elim)).same o6)
         clear hK K
         try simp only [Act.put, zq1, zq2, zq3, zq4, zq5, zq6]
         refine tqW (i := 14) (v := ?_) rfl (.inr (by assumption)) ?_ ?_
         rotate_left
         ·(intro w; go_simp <;> (try with_reducible rfl))
         try simp only [Act.put, zq1, zq2, zq3, zq4, zq5, zq6]
         refine wpAnyG_ready (rs := [15]) (by kernel_rfl) (by simp) ?_
         refine AllReadyG.late (i := 15) rfl (by kernel_rfl) (fun K hK => ?_) ?_
         ·(have qb := only_block HC.out hHeld (own_ne_block (by decide) HV.out HC.out); have qs0 := cell_block qb 1; have qs1 := free_block qb 1; go_simp)
          refine hK.out _ _ ?_
          clear hK K
          try simp only [Act.put, zq1, zq2, zq3, zq4, zq5, zq6]
          refine wpAnyG_done (by kernel_rfl) ?_ _
          have qb := only_block HC.out hHeld (own_ne_block (by decide) HV.out HC.out)
          have HC2 : Hid ((w6.setCell ⟨wri.heap.size + 1, 1, none⟩ (.slice ao5 (k + 1) cap5)).heap[wri.heap.size + 1]? = some (.cells #[.int .i64 rr, .slice ao5 (k + 1) cap5] 106)) := by rw [set_block qb]; rfl
          have oS : Only (fun k => k = wri.heap.size + 1) w6 (w6.setCell ⟨wri.heap.size + 1, 1, none⟩ (.slice ao5 (k + 1) cap5)) := (Only.refl (fun k => k = wri.heap.size + 1) w6).setCell (p := ⟨wri.heap.size + 1, 1, none⟩) (.inl rfl) _
          have HV2 : Hid ((w6.setCell ⟨wri.heap.size + 1, 1, none⟩ (.slice ao5 (k + 1) cap5)).ownsRow 0 3 1 (.slice ao5 (k + 1) cap5) (k + 1) ((valsTo by_ (m + 1) yy.vars (k + 1)).map cI)) := by
           rw [HSv.out, List.map_append]
           exact own_only r5 oS (fun kk hk e => own_ne_block (by decide) r5 qb (by rw [← e]; exact hk))
          have HOk2 : Hid (Only (fun _ => False) W3 (w6.setCell ⟨wri.heap.size + 1, 1, none⟩ (.slice ao5 (k + 1) cap5))) := (HU3.out _ hHeld).setCell (p := ⟨wri.heap.size + 1, 1, none⟩) (.inr (Nat.le_of_eq HS3.out)) _
          have HVn2 : Hid (∀ kk, (Value.slice ao5 (k + 1) cap5).ownBlock = some kk → W3.heap.size ≤ kk) := fun kk hk => by
           rcases nr5 kk hk with h | h
           ·exact HVn.out kk h
           ·exact Nat.le_trans (HOk.out.same (((Only.refl (fun _ => False) _).drew.same o5).alloc _)).size h
          clear hHeld r5 o5 o6 nr5 qb oS HU3
          go_wp2_with fail
          go_roundw
          case rel => exact ⟨HOk2, k + 1, mk + 1, _, by first | rfl | go_num, by omega, by first | rfl | go_num, by have := HMk.out; omega, HC2, HV2, HVn2⟩
          case measure => simp [RowKit.intOf] <;> omega
         exact AllReadyG.nil
        exact AllReadyG.nil
       exact AllReadyG.nil
      exact AllReadyG.nil
     ·obtain rfl : ny2 = k := by omega
      obtain ⟨av, cv, rfl, -, -⟩ := own_slice HV.out
      have HOz : Hid (Only (fun _ => False) wri wrk) := HP3.out.same HOk.out
      have HZ : Hid (Only F1 W2 wrk) := HOi.out.trans HOz.out (fun _ f => f.elim)
      have H7z : Hid (wrk.heap[(w.heap.size + 1 + 1 + 1)]? = some (.cells #[.slice (some ⟨bky, offy, none⟩) n_x_packs c_x_packs, .slice a_x_prefs n_x_prefs c_x_prefs, .slice a_q_roots n_q_roots c_q_roots, .slice ac i cc, nilS] 62)) := only_block H7.out HOz.out (fun f => f)
      have HRz : Hid (CRow W2 wrk (.slice ac i cc) P) := HR.out.only HOz.out (fun _ f => f.elim)
      have HRo : Hid (wrk.ownsRow 0 106 2 (.slice ac i cc) i (flatC P)) := by have := HRz.out.own; rw [HPl.out] at this; exact this
      have HCz := HC
      have HVz : Hid (wrk.ownsRow 0 3 1 (.slice av ny2 cv) (valsTo by_ (m + 1) yy.vars ny2).length ((valsTo by_ (m + 1) yy.vars ny2).map cI)) := by rw [valsTo_len]; exact HV.out
      have HCr : Hid (InI64 (CD.mk rr (valsTo by_ (m + 1) yy.vars ny2)).rel ∧ ∀ z ∈ (CD.mk rr (valsTo by_ (m + 1) yy.vars ny2)).vals, InI64 z) := ⟨⟨by show -9223372036854775808 ≤ rr; omega, by show rr ≤ 9223372036854775807; omega⟩, fun z hz => by
       have hz' : z ∈ valsTo by_ (m + 1) yy.vars ny2 := hz
       unfold valsTo at hz'
       obtain ⟨j, -, rfl⟩ := List.mem_map.1 hz'
       have h1 : pickN by_ (m + 1 + j) (yy.vars.getD j default).values.length ≤ 1000000000 := by
        refine pickN_le ?_
        by_cases hj : j < yy.vars.length
        ·have := HMv.out (yy.vars.getD j default) (by rw [List.getD_eq_getElem?_getD, List.getElem?_eq_getElem hj]; exact List.getElem_mem hj)
         omega
        ·rw [List.getD_eq_getElem?_getD, List.getElem?_eq_none (by omega)]
         show (default : VarD).values.length ≤ _
         simp [default]
       exact ⟨by omega, by omega⟩⟩
      clear HV HC HVn HOk
      subst hmk
      have q70 := cell_block H7z.out 3
      have q71 := free_block H7z.out 3
      have qc0 := cell_block HCz.out 0
      have qc1 := cell_block HCz.out 1
      have HPn : Hid (P.length = i) := HPl
      go_wp2_with (at_builtin; go_must (refine wpAR (cs := [.int .i64 rr, .slice av ny2 cv]) slC rfl (.tmp 71) (.tmp 73) rfl rfl rfl rfl (rangeAt_new (cs := [.int .i64 rr, .slice av ny2 cv]) (by simp)) (by intro u hu; simp at hu; rcases hu with rfl | rfl <;> rfl) (own_only HRo.out ((Only.refl (fun _ => False) _).alloc _) (fun _ _ f => f)) (by omega) (by decide) ?_))
      intro v' w8 s1 s2 s3
      have hsz := HZ.out.size
      have HR8 : Hid (CRow W2 w8 v' (P ++ [((⟨rr, valsTo by_ (m + 1) yy.vars ny2⟩ : CD), .slice av ny2 cv)])) := CRow.app (c := (⟨rr, valsTo by_ (m + 1) yy.vars ny2⟩ : CD)) (w1 := wrk.alloc (.cells #[.int .i64 rr, .slice av ny2 cv] 106)) (HRz.out.only (F := fun _ => False) ((Only.refl (fun _ => False) _).alloc _) (fun _ f => f.elim)) (by simp; omega) (by rw [HPl.out]; exact s1) s2 (by rw [HPl.out]; exact s3) (own_only HVz.out ((Only.refl (fun _ => False) _).alloc _) (fun _ _ f => f)) HCr.out
      have O8 : Only (fun k => (Value.slice ac i cc).ownBlock = some k) wrk w8 := (((Only.refl (fun _ => False) _).alloc _).mono fun _ f => f.elim).same s2
      have H78 : Hid (w8.heap[(w.heap.size + 1 + 1 + 1)]? = some (.cells #[.slice (some ⟨bky, offy, none⟩) n_x_packs c_x_packs, .slice a_x_prefs n_x_prefs c_x_prefs, .slice a_q_roots n_q_roots c_q_roots, .slice ac i cc, nilS] 62)) := only_block H7z.out O8 (own_ne_block (by decide) HRo.out H7z.out)
      have HO8 : Hid (Only F1 W2 w8) := HZ.out.trans O8 (fun k hk => .inl (HF1.out k (.inr (HRz.out.new k hk))))
      obtain ⟨g8, c8, rfl, -, -, -⟩ := s3
      have HR9 : Hid (CRow W2 (w8.setCell ⟨(w.heap.size + 1 + 1 + 1), 3, none⟩ (.slice (some ⟨g8, 0, none⟩) (i + 1) c8)) (.slice (some ⟨g8, 0, none⟩) (i + 1) c8) (P ++ [((⟨rr, valsTo by_ (m + 1) yy.vars ny2⟩ : CD), .slice av ny2 cv)])) := HR8.out.put H78.out (by decide) (by decide) _
      have HO9 : Hid (Only F1 W2 (w8.setCell ⟨(w.heap.size + 1 + 1 + 1), 3, none⟩ (.slice (some ⟨g8, 0, none⟩) (i + 1) c8))) := HO8.out.setCell (p := ⟨(w.heap.size + 1 + 1 + 1), 3, none⟩) (.inl (HF1.out _ (.inl rfl))) _
      have H79 : Hid ((w8.setCell ⟨(w.heap.size + 1 + 1 + 1), 3, none⟩ (.slice (some ⟨g8, 0, none⟩) (i + 1) c8)).heap[(w.heap.size + 1 + 1 + 1)]? = some (.cells #[.slice (some ⟨bky, offy, none⟩) n_x_packs c_x_packs, .slice a_x_prefs n_x_prefs c_x_prefs, .slice a_q_roots n_q_roots c_q_roots, .slice (some ⟨g8, 0, none⟩) (i + 1) c8, nilS] 62)) := by rw [set_block H78.out]; rfl
      have q80 := cell_block H78.out 3
      have q81 := free_block H78.out 3
      have HPl2 : Hid ((P ++ [((⟨rr, valsTo by_ (m + 1) yy.vars ny2⟩ : CD), Value.slice av ny2 cv)]).length = i + 1) := by rw [List.length_append, HPl.out]; exact rfl
      have HPm2 : Hid ((P ++ [((⟨rr, valsTo by_ (m + 1) yy.vars ny2⟩ : CD), Value.slice av ny2 cv)]).map Prod.fst = (ofTo x l by_ (i + 1)).1) := by rw [List.map_append, HPm.out, HNx.out]; exact rfl
      have HN2 : Hid ((ofTo x l by_ (i + 1)).2 = m + 1 + ny2) := by rw [HNx.out]; exact rfl
      clear s1 s2 O8 q70 q71 qc0 qc1
      go_wp2_with fail
      go_roundw
      case rel => exact ⟨HO9, i + 1, _, _, m + 1 + ny2, by first | rfl | go_num, by omega, by first | rfl | go_num, HN2, HPl2, HPm2, H79, HR9⟩
      case measure => simp [RowKit.intOf] <;> omega
   | false =>
    have HNx : Hid (ofTo x l by_ (i + 1) = ((ofTo x l by_ i).1 ++ [⟨-1, []⟩], m)) := by
     rw [ofTo, HPg.out, HBi.out, HN.out]
     rfl
    have HOz : Hid (Only (fun _ => False) wri w5) := HP3.out.same HO5.out
    have HZ : Hid (Only F1 W2 w5) := HOi.out.trans HOz.out (fun _ f => f.elim)
    have H7z : Hid (w5.heap[(w.heap.size + 1 + 1 + 1)]? = some (.cells #[.slice (some ⟨bky, offy, none⟩) n_x_packs c_x_packs, .slice a_x_prefs n_x_prefs c_x_prefs, .slice a_q_roots n_q_roots c_q_roots, .slice ac i cc, nilS] 62)) := only_block H7.out HOz.out (fun f => f)
    have HRz : Hid (CRow W2 w5 (.slice ac i cc) P) := HR.out.only HOz.out (fun _ f => f.elim)
    have HRo : Hid (w5.ownsRow 0 106 2 (.slice ac i cc) i (flatC P)) := by have := HRz.out.own; rw [HPl.out] at this; exact this
    obtain ⟨av, hav⟩ : ∃ a : Option Addr, a = none := ⟨_, rfl⟩
    obtain ⟨cv, hcv⟩ : ∃ c : Nat, c = 0 := ⟨_, rfl⟩
    have HCz : Hid (w5.heap[wri.heap.size + 1]? = some (.cells #[.int .i64 (-1), .slice av 0 cv] 106)) := by rw [hav, hcv]; exact HC5.out
    have HVz : Hid (w5.ownsRow 0 3 1 (.slice av 0 cv) ([] : List Int).length (([] : List Int).map cI)) := by rw [hav, hcv]; exact World.ownsRow_nil _ _ _ _
    have HCr : Hid (InI64 (CD.mk (-1) []).rel ∧ ∀ z ∈ (CD.mk (-1) []).vals, InI64 z) := ⟨⟨by show (-9223372036854775808 : Int) ≤ -1; omega, by show (-1 : Int) ≤ 9223372036854775807; omega⟩, fun z hz => by cases hz⟩
    clear hav hcv HC5
    have q70 := cell_block H7z.out 3
    have q71 := free_block H7z.out 3
    have qc0 := cell_block HCz.out 0
    have qc1 := cell_block HCz.out 1
    have HPn : Hid (P.length = i) := HPl
    go_wp2_with (at_builtin; go_must (refine wpAR (cs := [.int .i64 (-1), .slice av 0 cv]) slC rfl (.tmp 71) (.tmp 73) rfl rfl rfl rfl (rangeAt_new (cs := [.int .i64 (-1), .slice av 0 cv]) (by simp)) (by intro u hu; simp at hu; rcases hu with rfl | rfl <;> rfl) (own_only HRo.out ((Only.refl (fun _ => False) _).alloc _) (fun _ _ f => f)) (by omega) (by decide) ?_))
    intro v' w8 s1 s2 s3
    have hsz := HZ.out.size
    have HR8 : Hid (CRow W2 w8 v' (P ++ [((⟨-1, []⟩ : CD), .slice av 0 cv)])) := CRow.app (c := (⟨-1, []⟩ : CD)) (w1 := w5.alloc (.cells #[.int .i64 (-1), .slice av 0 cv] 106)) (HRz.out.only (F := fun _ => False) ((Only.refl (fun _ => False) _).alloc _) (fun _ f => f.elim)) (by simp; omega) (by rw [HPl.out]; exact s1) s2 (by rw [HPl.out]; exact s3) (own_only HVz.out ((Only.refl (fun _ => False) _).alloc _) (fun _ _ f => f)) HCr.out
    have O8 : Only (fun k => (Value.slice ac i cc).ownBlock = some k) w5 w8 := (((Only.refl (fun _ => False) _).alloc _).mono fun _ f => f.elim).same s2
    have H78 : Hid (w8.heap[(w.heap.size + 1 + 1 + 1)]? = some (.cells #[.slice (some ⟨bky, offy, none⟩) n_x_packs c_x_packs, .slice a_x_prefs n_x_prefs c_x_prefs, .slice a_q_roots n_q_roots c_q_roots, .slice ac i cc, nilS] 62)) := only_block H7z.out O8 (own_ne_block (by decide) HRo.out H7z.out)
    have HO8 : Hid (Only F1 W2 w8) := HZ.out.trans O8 (fun k hk => .inl (HF1.out k (.inr (HRz.out.new k hk))))
    obtain ⟨g8, c8, rfl, -, -, -⟩ := s3
    have HR9 : Hid (CRow W2 (w8.setCell ⟨(w.heap.size + 1 + 1 + 1), 3, none⟩ (.slice (some ⟨g8, 0, none⟩) (i + 1) c8)) (.slice (some ⟨g8, 0, none⟩) (i + 1) c8) (P ++ [((⟨-1, []⟩ : CD), .slice av 0 cv)])) := HR8.out.put H78.out (by decide) (by decide) _
    have HO9 : Hid (Only F1 W2 (w8.setCell ⟨(w.heap.size + 1 + 1 + 1), 3, none⟩ (.slice (some ⟨g8, 0, none⟩) (i + 1) c8))) := HO8.out.setCell (p := ⟨(w.heap.size + 1 + 1 + 1), 3, none⟩) (.inl (HF1.out _ (.inl rfl))) _
    have H79 : Hid ((w8.setCell ⟨(w.heap.size + 1 + 1 + 1), 3, none⟩ (.slice (some ⟨g8, 0, none⟩) (i + 1) c8)).heap[(w.heap.size + 1 + 1 + 1)]? = some (.cells #[.slice (some ⟨bky, offy, none⟩) n_x_packs c_x_packs, .slice a_x_prefs n_x_prefs c_x_prefs, .slice a_q_roots n_q_roots c_q_roots, .slice (some ⟨g8, 0, none⟩) (i + 1) c8, nilS] 62)) := by rw [set_block H78.out]; rfl
    have q80 := cell_block H78.out 3
    have q81 := free_block H78.out 3
    have HPl2 : Hid ((P ++ [((⟨-1, []⟩ : CD), Value.slice av 0 cv)]).length = i + 1) := by rw [List.length_append, HPl.out]; exact rfl
    have HPm2 : Hid ((P ++ [((⟨-1, []⟩ : CD), Value.slice av 0 cv)]).map Prod.fst = (ofTo x l by_ (i + 1)).1) := by rw [List.map_append, HPm.out, HNx.out]; exact rfl
    have HN2 : Hid ((ofTo x l by_ (i + 1)).2 = m) := by rw [HNx.out]; exact rfl
    clear s1 s2 O8 q70 q71 qc0 qc1
    go_wp2_with fail
    go_roundw
    case rel => exact ⟨HO9, i + 1, _, _, m, by first | rfl | go_num, by omega, by first | rfl | go_num, HN2, HPl2, HPm2, H79, HR9⟩
    case measure => simp [RowKit.intOf] <;> omega
  ·obtain rfl : n_x_packs = i := by omega
   obtain ⟨ac, cc, rfl, -, -⟩ : ∃ ac cc, vC = .slice ac n_x_packs cc ∧ True ∧ True := by
    obtain ⟨a, c, e, -, -⟩ := own_slice HR.out.own
    rw [HPl.out] at e
    exact ⟨a, c, e, trivial, trivial⟩
   have q0 := cell_block H7.out 0
   have q1 := cell_block H7.out 1
   have q2 := cell_block H7.out 2
   have q3 := cell_block H7.out 3
   have q4 := cell_block H7.out 4
   have H6z : Hid (wri.heap[(w.heap.size + 1 + 1)]? = some (.cells #[nilS, nilS, nilS, nilS, nilS] 62)) := only_block H6.out HOi.out (fun f => (HF6.out f).elim)
   have oR := only_setRow wri (w.heap.size + 1 + 1) #[.slice a_x_packs n_x_packs c_x_packs, .slice a_x_prefs n_x_prefs c_x_prefs, .slice a_q_roots n_q_roots c_q_roots, .slice ac n_x_packs cc, nilS]
   have HOw : Hid (Only (fun _ => False) W0 (wri.setRow (w.heap.size + 1 + 1) #[.slice a_x_packs n_x_packs c_x_packs, .slice a_x_prefs n_x_prefs c_x_prefs, .slice a_q_roots n_q_roots c_q_roots, .slice ac n_x_packs cc, nilS])) := (HUp.out wri HOi.out).trans oR (fun k hk => .inr (by rw [hk, HSz.out]; omega))
   have HRw : Hid (CRow W2 (wri.setRow (w.heap.size + 1 + 1) #[.slice a_x_packs n_x_packs c_x_packs, .slice a_x_prefs n_x_prefs c_x_prefs, .slice a_q_roots n_q_roots c_q_roots, .slice ac n_x_packs cc, nilS]) (.slice ac n_x_packs cc) P) :=
    ⟨own_only HR.out.own oR (fun k hk e => own_ne_block (by decide) HR.out.own H6z.out (by rw [← e]; exact hk)), HR.out.new, fun p hp => own_only (HR.out.vals p hp) oR (fun k hk e => own_ne_block (by decide) (HR.out.vals p hp) H6z.out (by rw [← e]; exact hk)), HR.out.rng⟩
   clear oR
   go_wp2_with (refine wpList_store_row rfl 62 (.tmp 6) (.tmp 77) rfl (w.heap.size + 1 + 1) #[.slice a_x_packs n_x_packs c_x_packs, .slice a_x_prefs n_x_prefs c_x_prefs, .slice a_q_roots n_q_roots c_q_roots, .slice ac n_x_packs cc, nilS] rfl rfl 62 #[nilS, nilS, nilS, nilS, nilS] H6z.out (by kernel_rfl) rfl (by kernel_rfl) ?_)
   refine ret_G (p := 6) rfl rfl rfl rfl (setRow_heap _ _ _ _ _ _ H6z.out) ?_
   have hB : B ≤ (wri.setRow (w.heap.size + 1 + 1) #[.slice a_x_packs n_x_packs c_x_packs, .slice a_x_prefs n_x_prefs c_x_prefs, .slice a_q_roots n_q_roots c_q_roots, .slice ac n_x_packs cc, nilS]).heap.size := Nat.le_trans hBw (HOB.out.same HOw.out).size
   refine ⟨[.slice a_x_packs n_x_packs c_x_packs, .slice a_x_prefs n_x_prefs c_x_prefs, .slice a_q_roots n_q_roots c_q_roots, .slice ac n_x_packs cc, nilS], rfl, ⟨_, _, _, _, _, rfl, (HR_x_packs.out _ HOw.out).lift PackC.lift hB (Nat.le_refl _), (HR_x_prefs.out _ HOw.out).lift PrefC.lift hB (Nat.le_refl _), (HR_q_roots.out _ HOw.out).lift RootC.lift hB (Nat.le_refl _), ?_, RowT.nilRow⟩, HOB.out.same HOw.out⟩
   have h9 := HRw.out.read
   rw [HPm.out] at h9
   show RowT 2 CC _ _ _ (ofTo x l by_ x.packs.length).1
   rw [N_x_packs.out]
   exact h9
end
section
variable {w w' : World} {B : Nat}
theorem flatA_get (l : List At) {i j : Nat} (hi : i < l.length) (hj : j < 4) : (l.flatMap cellsA)[i * 4 + j]? = (cellsA (l[i]'hi))[j]? := by
 induction l generalizing i with
 | nil => simp at hi
 | cons x r ih =>
  have hx : (cellsA x).length = 4 := rfl
  rw [List.flatMap_cons]
  cases i with
  | zero => rw [Nat.zero_mul, Nat.zero_add, List.getElem?_append_left (by rw [hx]; exact hj)]; rfl
  | succ i =>
   rw [List.getElem?_append_right (by rw [hx]; omega), hx, show (i + 1) * 4 + j - 4 = i * 4 + j by omega, ih (by simpa using hi)]
   simp
def AtC (_ : Nat) (_ : World) (cs : List Value) (x : At) : Prop := cs = cellsA x
theorem ret_at {Q : Ending → World → Prop} {a : Act} {W : World} {B : Nat} {cs : Array Value} {x : Bool} (hp : a.tmps.getD 4 undef = .pointer (some ⟨B, 0, none⟩)) (h5 : a.tmps.getD 5 undef = .bool x) (hd : a.defers = []) (hs : cs.size = 4) (hg : W.heap[B]? = some (.cells cs 96 (0, 0)))
  (h : Q (.returned (.tuple #[.agg cs, .bool x])) W) : bodyPost Tryz.prog Tryz.f42 Q Exit.ret a W := by
 refine bodyPost_ret (v := .tuple #[.agg cs, .bool x]) ?_ hd h
 rw [results_cell_tmp rfl, hp, h5]
 simp only [asAddr, Sem.run_pure, Result.andThen_ok]
 rw [run_loadVar_row W B 96 96 cs (0, 0) _ hg Tryz.underlying96 rfl (by rw [hs]; kernel_rfl)]
 rfl
set_option maxRecDepth 100000 in
set_option maxHeartbeats 1000000 in
theorem tabAt_any {g : Tag} {b : Nat} {V : TabV} {T : Tab} (H : TabAt w g b V T) (i : Nat) (hi : i < T.l.length) :
  Calls Tryz.prog 42 #[.pointer (some ⟨b, 0, none⟩), .int .i64 ((i : Int) + 1)] w fun e w' => e = .returned (.tuple #[encA (T.l.getD i default), .bool true]) ∧ Only (fun _ => False) w w' := by
 obtain ⟨x, hx⟩ : ∃ x, T.l[i]? = some x := ⟨_, List.getElem?_eq_getElem hi⟩
 have hxd : T.l.getD i default = x := by rw [List.getD_eq_getElem?_getD, hx]; rfl
 rw [hxd]
 have hT : RowT 4 AtC w.heap.size w V.vl T.l := RowT.of_own H.l.own fun k hk => ⟨cellsA T.l[k], rfl, fun j u hu => by
  have hj : j < 4 := (List.getElem?_eq_some_iff.1 hu).1
  rw [flatA_get T.l hk hj]; exact hu, rfl⟩
 have hlen : T.l.length ≤ 65536 := Nat.le_trans H.len H.lim
 obtain ⟨al, cl, hvl, hc1, hc2⟩ := own_slice H.l.own
 rw [hvl] at hT
 obtain ⟨n, hn⟩ : ∃ n, T.l.length = n := ⟨_, rfl⟩
 obtain ⟨bk, off, hal, -, -⟩ := hT.at (by omega)
 subst hal
 obtain ⟨cs, -, hr, rfl⟩ := hT.get hx
 obtain ⟨W1, hW1⟩ : ∃ W, W = w.alloc (.cells #[.int .u8 0, .int .i64 0, .int .i64 0, .int .i64 0] 96) := ⟨_, rfl⟩
 have O1 : Only (fun _ => False) w W1 := by rw [hW1]; exact (Only.refl _ _).alloc _
 have HB1 : Hid (W1.heap[w.heap.size]? = some (.cells #[.int .u8 0, .int .i64 0, .int .i64 0, .int .i64 0] 96)) := by rw [hW1]; exact heap_alloc_new w _
 have HLn := Lib.hid (tabLen_any (H.only O1 (fun _ _ f => f)))
 have HO1 := Lib.hid O1
 have q1 : W1.cell? ⟨b, 1, none⟩ = some (.slice (some ⟨bk, off, none⟩) n cl) := by rw [cell_block (only_block H.blk O1 (fun f => f)), ← hn, ← hvl]; rfl
 have hr1 : W1.rangeAt bk (off + i * 4) (cellsA x) := fun j u hu => by
  have h0 := hr j u hu
  rw [World.cell?_of_block (w := w) (O1.block bk (World.block_lt_of_cell? _ _ h0) (fun f => f))]
  exact h0
 have HR := Lib.hid hr1
 have ews : IntKind.i64.wrap ((i : Int) + 1 - 1) = (i : Int) := by rw [IntKind.wrap_i64]; omega
 rw [hn] at HLn hi hlen
 unfold encA
 clear hx hxd hT hr hr1 O1 H hc1 hvl hn
 go_enter Tryz.func42, Tryz.ntmps42
 go_wp2_with fail
 rw [← hW1]
 clear hW1
 refine HLn.out.mono ?_
 rintro e w2 ⟨rfl, rfl⟩
 go_wp2_with (first
  | (refine wpList_load_mid rfl 96 (.tmp 21) rfl bk (off + i * 4) rfl _ _ HR.out Tryz.underlying96 rfl (by kernel_rfl) ?_)
  | (refine wpList_store_row rfl 96 (.tmp 4) (.tmp 22) rfl w.heap.size #[.int .u8 x.1, .int .i64 x.2.1, .int .i64 x.2.2.1, .int .i64 x.2.2.2] rfl rfl 96 #[.int .u8 0, .int .i64 0, .int .i64 0, .int .i64 0] HB1.out (by kernel_rfl) rfl (by simp [Value.oneCell']) ?_))
 refine ret_at rfl rfl rfl rfl (setRow_heap _ _ _ _ _ _ HB1.out) ?_
 exact ⟨rfl, HO1.out.trans (only_setRow _ _ _) (fun k hk => .inr (Nat.le_of_eq hk.symm))⟩
def toldTo (s : At → Bool) (l : List At) (i : Nat) : List Bool := (l.take i).map s ++ List.replicate (l.length - i) false
theorem toldTo_len (s : At → Bool) (l : List At) {i : Nat} (hi : i ≤ l.length) : (toldTo s l i).length = l.length := by unfold toldTo; simp; omega
theorem toldTo_succ (s : At → Bool) (l : List At) {i : Nat} (hi : i < l.length) : (toldTo s l i).set i (s (l.getD i default)) = toldTo s l (i + 1) := by
 unfold toldTo
 have h1 : ((l.take i).map s).length = i := by simp; omega
 have h2 : l.length - i = (l.length - (i + 1)) + 1 := by omega
 rw [List.set_append_right _ _ (by omega), h1, Nat.sub_self, h2, List.replicate_succ, List.set_cons_zero, List.take_succ_eq_append_getElem hi, List.map_append, List.append_assoc]
 congr 2
 simp [List.getD_eq_getElem?_getD, hi]
theorem toldTo_all (s : At → Bool) (l : List At) : toldTo s l l.length = l.map s := by unfold toldTo; simp
theorem toldTo_zero (s : At → Bool) (l : List At) : toldTo s l 0 = List.replicate l.length false := by unfold toldTo; simp
set_option maxRecDepth 100000 in
set_option maxHeartbeats 4000000 in
theorem Model_any {csg : List Value} {g : GD} (hg : GC B w csg g) {gt gb : Tag} {c bt bb : Nat} {G : GrV} {T : Tab} {Bd : Bld} (H : GrAt w gt gb c bt bb G T Bd) (hgr : GR g) (hat : ∀ a ∈ T.l, ∃ p, p < g.x.packs.length ∧ (a = nodeA p ∨ (∃ i, i ≤ 1000000 ∧ a = relA p i) ∨ ∃ j k, j ≤ 1000000 ∧ k ≤ 1000000 ∧ a = valA p j k)) :
  Calls Tryz.prog 13 #[.pointer (some ⟨c, 0, none⟩), .agg csg.toArray] w fun e w' => ∃ go, e = .returned (.slice (some ⟨go, 0, none⟩) T.l.length T.l.length) ∧ w'.ownsRow 0 4 1 (.slice (some ⟨go, 0, none⟩) T.l.length T.l.length) T.l.length ((T.l.map (soC g.c)).map Value.bool) ∧ w.heap.size ≤ go ∧ Only (fun _ => False) w w' := by
 obtain ⟨nt, hnt⟩ : ∃ n, T.l.length = n := ⟨_, rfl⟩
 have HNt := Lib.hid hnt
 have hntb : nt ≤ 65536 := by obtain ⟨V, hV⟩ := H.tab; rw [← hnt]; exact Nat.le_trans hV.len hV.lim
 have HH := Lib.hid H
 have HGr := Lib.hid hgr
 clear H
 have HH_g := Lib.hid hg
 obtain ⟨u1, u2, u3, u4, u5, rfl, r1, r2, r3, r4, r5⟩ := hg
 obtain ⟨a_g_packs, c_g_packs, rfl, g_g_packs, h_g_packs⟩ := r1.shape
 obtain ⟨n_g_packs, e1⟩ : ∃ n, g.x.packs.length = n := ⟨_, rfl⟩
 have N_g_packs := Lib.hid e1
 obtain ⟨a_g_prefs, c_g_prefs, rfl, g_g_prefs, h_g_prefs⟩ := r2.shape
 obtain ⟨n_g_prefs, e2⟩ : ∃ n, g.x.prefs.length = n := ⟨_, rfl⟩
 have N_g_prefs := Lib.hid e2
 obtain ⟨a_g_roots, c_g_roots, rfl, g_g_roots, h_g_roots⟩ := r3.shape
 obtain ⟨n_g_roots, e3⟩ : ∃ n, g.q.roots.length = n := ⟨_, rfl⟩
 have N_g_roots := Lib.hid e3
 obtain ⟨a_g_c, c_g_c, rfl, g_g_c, h_g_c⟩ := r4.shape
 obtain ⟨n_g_c, e4⟩ : ∃ n, g.c.length = n := ⟨_, rfl⟩
 have N_g_c := Lib.hid e4
 obtain ⟨a_g_off, c_g_off, rfl, g_g_off, h_g_off⟩ := r5.shape
 obtain ⟨n_g_off, e5⟩ : ∃ n, g.off.length = n := ⟨_, rfl⟩
 have N_g_off := Lib.hid e5
 rw [e1, e2, e3, e4, e5] at HH_g
 rw [e1] at r1 g_g_packs
 have RR_g_packs := Lib.hid r1
 rw [e2] at r2 g_g_prefs
 have RR_g_prefs := Lib.hid r2
 rw [e3] at r3 g_g_roots
 have RR_g_roots := Lib.hid r3
 rw [e4] at r4 g_g_c
 have RR_g_c := Lib.hid r4
 rw [e5] at r5 g_g_off
 have RR_g_off := Lib.hid r5
 rw [e1, e2, e3, e4, e5]
 clear e1 e2 e3 e4 e5 r1 r2 r3 r4 r5
 obtain ⟨W0, hW0⟩ : ∃ W0, W0 = (w.alloc (.cells #[.slice a_g_packs n_g_packs c_g_packs, .slice a_g_prefs n_g_prefs c_g_prefs, .slice a_g_roots n_g_roots c_g_roots, .slice a_g_c n_g_c c_g_c, .slice a_g_off n_g_off c_g_off] 62)) := ⟨_, rfl⟩
 have HOB : Hid (Only (fun _ => False) w W0) := by rw [hW0]; exact (Only.refl _ _).alloc _
 have HSz : Hid (W0.heap.size = w.heap.size + 1) := by rw [hW0]; simp [Hid]
 have HBox : Hid (∀ W, Only (fun _ => False) W0 W → W.cell? ⟨w.heap.size, 0, none⟩ = some (.slice a_g_packs n_g_packs c_g_packs) ∧ W.cell? ⟨w.heap.size, 1, none⟩ = some (.slice a_g_prefs n_g_prefs c_g_prefs) ∧ W.cell? ⟨w.heap.size, 2, none⟩ = some (.slice a_g_roots n_g_roots c_g_roots) ∧ W.cell? ⟨w.heap.size, 3, none⟩ = some (.slice a_g_c n_g_c c_g_c) ∧ W.cell? ⟨w.heap.size, 4, none⟩ = some (.slice a_g_off n_g_off c_g_off)) := fun W ho => by
  have b0 : W0.heap[w.heap.size]? = some (.cells #[.slice a_g_packs n_g_packs c_g_packs, .slice a_g_prefs n_g_prefs c_g_prefs, .slice a_g_roots n_g_roots c_g_roots, .slice a_g_c n_g_c c_g_c, .slice a_g_off n_g_off c_g_off] 62) := by rw [hW0]; exact alloc_at rfl
  have d0 := only_block b0 ho (fun f => f)
  exact ⟨by rw [cell_block d0]; rfl, by rw [cell_block d0]; rfl, by rw [cell_block d0]; rfl, by rw [cell_block d0]; rfl, by rw [cell_block d0]; rfl⟩
 have HK_g : Hid (∀ W, Only (fun _ => False) W0 W → GC B W [.slice a_g_packs n_g_packs c_g_packs, .slice a_g_prefs n_g_prefs c_g_prefs, .slice a_g_roots n_g_roots c_g_roots, .slice a_g_c n_g_c c_g_c, .slice a_g_off n_g_off c_g_off] g) := fun W ho => GC.keep HH_g.out (Kp.of0 (HOB.out.same ho) : Kp B w W)
 have HR_g_packs : Hid (∀ W, Only (fun _ => False) W0 W → RowT 8 PackC B W (.slice a_g_packs n_g_packs c_g_packs) g.x.packs) := fun W ho => RR_g_packs.out.keep PackC.keep (Kp.of0 (HOB.out.same ho))
 clear RR_g_packs
 have HR_g_prefs : Hid (∀ W, Only (fun _ => False) W0 W → RowT 3 PrefC B W (.slice a_g_prefs n_g_prefs c_g_prefs) g.x.prefs) := fun W ho => RR_g_prefs.out.keep PrefC.keep (Kp.of0 (HOB.out.same ho))
 clear RR_g_prefs
 have HR_g_roots : Hid (∀ W, Only (fun _ => False) W0 W → RowT 4 RootC B W (.slice a_g_roots n_g_roots c_g_roots) g.q.roots) := fun W ho => RR_g_roots.out.keep RootC.keep (Kp.of0 (HOB.out.same ho))
 clear RR_g_roots
 have HR_g_c : Hid (∀ W, Only (fun _ => False) W0 W → RowT 2 CC B W (.slice a_g_c n_g_c c_g_c) g.c) := fun W ho => RR_g_c.out.keep CC.keep (Kp.of0 (HOB.out.same ho))
 clear RR_g_c
 have HR_g_off : Hid (∀ W, Only (fun _ => False) W0 W → RowT 1 BoolC B W (.slice a_g_off n_g_off c_g_off) g.off) := fun W ho => RR_g_off.out.keep BoolC.keep (Kp.of0 (HOB.out.same ho))
 clear RR_g_off
 clear HH_g
 have hnb := hgr.ru.packs
 rw [N_g_packs.out] at hnb hat
 have HRe := Lib.hid (Reach_any (HK_g.out W0 (Only.refl _ _)) hgr)
 rw [N_g_packs.out] at HRe
 have HTab : Hid (∀ W, Only (fun _ => False) W0 W → Calls Tryz.prog 18 #[.pointer (some ⟨c, 0, none⟩)] W fun e w' => e = .returned (.pointer (some ⟨bt, 0, none⟩)) ∧ w' = W) := fun W hW => Table_gr (HH.out.only0 (HOB.out.same hW))
 have HLen : Hid (∀ W, Only (fun _ => False) W0 W → Calls Tryz.prog 21 #[.pointer (some ⟨bt, 0, none⟩)] W fun e w' => e = .returned (.int .i64 (nt : Int)) ∧ w' = W) := fun W hW => by
  obtain ⟨V, hV⟩ := (HH.out.only0 (HOB.out.same hW)).tab
  rw [← HNt.out]
  exact tabLen_any hV
 have HAt : Hid (∀ i, i < nt → ∀ W, Only (fun _ => False) W0 W → Calls Tryz.prog 42 #[.pointer (some ⟨bt, 0, none⟩), .int .i64 ((i : Int) + 1)] W fun e w' => e = .returned (.tuple #[encA (T.l.getD i default), .bool true]) ∧ Only (fun _ => False) W w') := fun i hi W hW => by
  obtain ⟨V, hV⟩ := (HH.out.only0 (HOB.out.same hW)).tab
  exact tabAt_any hV i (by rw [HNt.out]; exact hi)
 have HAll := Lib.hid hat
 clear hat hgr hnt
 obtain ⟨k0, k1, k2, k3, k4⟩ := HBox.out W0 (Only.refl _ _)
 rw [hW0] at k0 k1 k2 k3 k4
 go_enter Tryz.func13, Tryz.ntmps13
 go_wp2_with fail
 rw [← hW0] at k0 k1 k2 k3 k4 ⊢
 clear hW0
 refine HRe.out.mono ?_
 rintro e w1 ⟨vr, L, rfl, hLl, hBB, O1⟩
 have HO1 := Lib.hid O1
 obtain ⟨ar, cr, rfl, -, -⟩ := own_slice hBB.own
 rw [hLl]
 have HSo0 : Hid (∀ x ∈ T.l, ∀ W, Only (fun _ => False) W0 W → Calls Tryz.prog 43 #[.agg #[.slice a_g_packs n_g_packs c_g_packs, .slice a_g_prefs n_g_prefs c_g_prefs, .slice a_g_roots n_g_roots c_g_roots, .slice a_g_c n_g_c c_g_c, .slice a_g_off n_g_off c_g_off], .agg #[.int .u8 x.1, .int .i64 x.2.1, .int .i64 x.2.2.1, .int .i64 x.2.2.2], .slice ar n_g_packs cr] W fun e w' => e = .returned (.bool (soC g.c x)) ∧ Only (fun _ => False) W w') := fun x hx W hW => by
  obtain ⟨p, hp, h | ⟨i, hib, h⟩ | ⟨j, k, hjb, hkb, h⟩⟩ := HAll.out x hx
  ·rw [h]; exact So1_any (HK_g.out W hW) p 0 0 ⟨by omega, by omega, by omega⟩ ar n_g_packs cr hp (by omega)
  ·rw [h]; exact So2_any (HK_g.out W hW) p i 0 ⟨by omega, by omega, by omega⟩ ar n_g_packs cr hp (by omega)
  ·rw [h]; exact So3_any (HK_g.out W hW) p j k ⟨by omega, by omega, by omega⟩ ar n_g_packs cr hp (by omega)
 clear O1 hBB HRe HAll hLl L
 clear k0 k1 k2 k3 k4
 go_wp2_with fail
 refine (HTab.out w1 HO1.out).mono ?_
 rintro e w2 ⟨rfl, rfl⟩
 go_wp2_with fail
 refine (HLen.out w2 HO1.out).mono ?_
 rintro e w3 ⟨rfl, rfl⟩
 go_wp2_with (at_make; go_must (refine wpM (bytes := 1) (z := .bool false) Tryz.underlying58 (by kernel_rfl) rfl rfl _ _ rfl nt rfl rfl rfl rfl (by omega) (by decide) ?_))
 intro w4 r1 r2 r3
 have HOC : Hid (Only (fun _ => False) W0 w4) := HO1.out.same r2
 have HG : Hid (W0.heap.size ≤ w3.heap.size) := HO1.out.size
 generalize w3.heap.size = go at *
 have HVC : Hid (w4.ownsRow 0 4 1 (.slice (some ⟨go, 0, none⟩) nt nt) nt ((toldTo (soC g.c) T.l 0).map Value.bool)) := by
  rw [toldTo_zero, HNt.out, List.map_replicate]
  exact r1
 clear r1 r2 r3 HLen
 go_wp2_with fail
 go_loopw [18] (fun vi wri => Hid (Only (fun _ => False) W0 wri) ∧ ∃ i : Nat, vi = .int .i64 i ∧ i ≤ nt ∧ Hid (wri.ownsRow 0 4 1 (.slice (some ⟨go, 0, none⟩) nt nt) nt ((toldTo (soC g.c) T.l i).map Value.bool))) (fun v _ => nt - (RowKit.intOf v).toNat)
 case atStart => exact ⟨HOC, 0, rfl, Nat.zero_le _, HVC⟩
 case round =>
  obtain ⟨wri, rfl⟩ : ∃ W, W = wr := ⟨_, rfl⟩
  clear HOC HVC
  obtain ⟨HOi, i, rfl, hi, HV⟩ := hrel
  obtain ⟨k0, k1, k2, k3, k4⟩ := HBox.out wri HOi.out
  by_cases ci : i < nt
  ·have ewi : IntKind.i64.wrap ((i : Int) + 1) = (i : Int) + 1 := by rw [IntKind.wrap_i64]; omega
   have HTb := Lib.hid (HTab.out wri HOi.out)
   have HAx := HAt.out i ci
   obtain ⟨x, hx⟩ : ∃ x, T.l.getD i default = x := ⟨_, rfl⟩
   have hmem : x ∈ T.l := by rw [← hx, List.getD_eq_getElem?_getD, List.getElem?_eq_getElem (by rw [HNt.out]; exact ci)]; exact List.getElem_mem _
   have HSo := Lib.hid (HSo0.out x hmem)
   rw [hx] at HAx
   obtain ⟨r, hr⟩ : ∃ r, soC g.c x = r := ⟨_, rfl⟩
   rw [hr] at HSo
   have HSn : Hid (toldTo (soC g.c) T.l (i + 1) = (toldTo (soC g.c) T.l i).set i r) := by rw [← hr, ← hx, toldTo_succ _ _ (by rw [HNt.out]; exact ci)]; exact rfl
   have HA1 : Hid (∀ W, Only (fun _ => False) W0 W → Calls Tryz.prog 42 #[.pointer (some ⟨bt, 0, none⟩), .int .i64 ((i : Int) + 1)] W fun e w' => e = .returned (.tuple #[.agg #[.int .u8 x.1, .int .i64 x.2.1, .int .i64 x.2.2.1, .int .i64 x.2.2.2], .bool true]) ∧ Only (fun _ => False) W w') := fun W hW => HAx W hW
   clear hx hmem HAx hr
   go_wp2_with fail
   refine HTb.out.mono ?_
   rintro e w2 ⟨rfl, rfl⟩
   go_wp2_with fail
   refine (HA1.out _ HOi.out).mono ?_
   rintro e w3 ⟨rfl, O3⟩
   have HO3 := Lib.hid (HOi.out.same O3)
   have HOw3 := Lib.hid O3
   obtain ⟨W4, hW4⟩ : ∃ W, W = w3.alloc (.cells #[.int .u8 x.1, .int .i64 x.2.1, .int .i64 x.2.2.1, .int .i64 x.2.2.2] 96) := ⟨_, rfl⟩
   have HO4 : Hid (Only (fun _ => False) W0 W4) := by rw [hW4]; exact HO3.out.alloc _
   have HOi4 : Hid (Only (fun _ => False) w2 W4) := by rw [hW4]; exact HOw3.out.alloc _
   have b4 : W4.heap[w3.heap.size]? = some (.cells #[.int .u8 x.1, .int .i64 x.2.1, .int .i64 x.2.2.1, .int .i64 x.2.2.2] 96) := by rw [hW4]; exact heap_alloc_new w3 _
   have a0 := cell_block b4 0
   have a1 := cell_block b4 1
   have a2 := cell_block b4 2
   have a3 := cell_block b4 3
   clear O3 HTb HA1 b4 k0 k1 k2 k3 k4
   obtain ⟨k0, k1, k2, k3, k4⟩ := HBox.out W4 HO4.out
   rw [hW4] at k0 k1 k2 k3 k4 a0 a1 a2 a3
   go_wp2_with fail
   rw [← hW4]
   clear hW4 k0 k1 k2 k3 k4 a0 a1 a2 a3
   refine (HSo.out _ HO4.out).mono ?_
   rintro e w5 ⟨rfl, O5⟩
   have HO5 := Lib.hid (HO4.out.same O5)
   have hV5 := own_only HV.out (HOi4.out.same O5) (fun _ _ f => f)
   have qc : w5.cell? ⟨go, i, none⟩ = some (.bool ((toldTo (soC g.c) T.l i).getD i false)) := by
    rw [hV5.cellAt i (by omega), List.getElem?_map, List.getD_eq_getElem?_getD, List.getElem?_eq_getElem (by rw [toldTo_len _ _ (by rw [HNt.out]; exact hi), HNt.out]; exact ci)]
    rfl
   have qf := hV5.frozenAt i
   have HV6 : Hid ((w5.setCell ⟨go, i, none⟩ (.bool r)).ownsRow 0 4 1 (.slice (some ⟨go, 0, none⟩) nt nt) nt ((toldTo (soC g.c) T.l (i + 1)).map Value.bool)) := by
    rw [HSn.out, List.map_set]
    exact (hV5.stored i (.bool r)).1
   have HO6 : Hid (Only (fun _ => False) W0 (w5.setCell ⟨go, i, none⟩ (.bool r))) := HO5.out.setCell (p := ⟨go, i, none⟩) (.inr HG.out) _
   clear O5 hV5 HSo
   go_wp2_with fail
   go_roundw
   case rel => exact ⟨HO6, i + 1, by first | rfl | go_num, by omega, HV6⟩
   case measure => simp [RowKit.intOf] <;> omega
  ·obtain rfl : nt = i := by omega
   go_wp2_with fail
   go_ret
   refine ⟨go, by rw [HNt.out]; rfl, ?_, Nat.le_trans HOB.out.size HG.out, HOB.out.same HOi.out⟩
   have h1 := HV.out
   have h2 := toldTo_all (soC g.c) T.l
   rw [HNt.out] at h2 ⊢
   rw [← h2]
   exact h1
end
end Go.Proofs.YtbapkcnfacklaaaGreat

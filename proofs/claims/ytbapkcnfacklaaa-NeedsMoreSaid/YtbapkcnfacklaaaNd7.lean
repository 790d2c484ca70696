/- NeedsMore: the walk. Printed by gen_nd7.py. -/
import Derived.Test.YtbapkcnfacklaaaNd6
import Derived.Test.YtbapkcnfacklaaaRegs
import Derived.Deep.DeepCutAuto
import Derived.BigFrame
set_option linter.unusedVariables false
namespace Go.Proofs.Ytbapkcnfacklaaa
open Go.RowKit Go.Shelf
section
variable {w w' : World} {B : Nat}
theorem flat_len {n : Nat} {F : Nat → List Value} : ∀ {k : Nat}, (∀ i, i < k → (F i).length = n) → ((List.range k).flatMap F).length = k * n
 | 0, _ => by simp
 | k + 1, h => by
  rw [List.range_succ, List.flatMap_append, List.length_append, flat_len fun i hi => h i (by omega)]
  simp [h k (by omega), Nat.add_mul]
theorem flat_get {n : Nat} {F : Nat → List Value} : ∀ {k : Nat}, (∀ i, i < k → (F i).length = n) → ∀ {i j : Nat}, i < k → j < n → ((List.range k).flatMap F)[i * n + j]? = (F i)[j]?
 | 0, _, _, _, h, _ => by omega
 | k + 1, h, i, j, hi, hj => by
  have hl := flat_len (n := n) (F := F) (k := k) fun i hi => h i (by omega)
  rw [List.range_succ, List.flatMap_append]
  by_cases hk : i < k
  ·have : i * n + j < k * n := by
    have : (i + 1) * n ≤ k * n := Nat.mul_le_mul_right _ hk
    rw [Nat.add_mul] at this; omega
   rw [List.getElem?_append_left (by rw [hl]; exact this)]
   exact flat_get (fun i hi => h i (by omega)) hk hj
  ·obtain rfl : i = k := by omega
   rw [List.getElem?_append_right (by rw [hl]; omega), hl]
   simp
theorem RowT.flat {α : Type} {n : Nat} (hn : 0 < n) {C : Nat → World → List Value → α → Prop} {ao : Option Addr} {len cap : Nat} {xs : List α} (h : RowT n C B w (.slice ao len cap) xs) :
  ∃ F : Nat → List Value, (∀ i (hi : i < xs.length), (F i).length = n ∧ C B w (F i) xs[i]) ∧ ((List.range xs.length).flatMap F).length = xs.length * n ∧ (∀ ad, ao = some ad → ∀ j u, ((List.range xs.length).flatMap F)[j]? = some u → w.cell? (ad.add j) = some u) := by
 by_cases h0 : 0 < xs.length
 ·obtain ⟨b, off, rfl, _, _, hc⟩ := h.cells _ _ _ rfl h0
  obtain ⟨F, hF⟩ := Go.Deep.choose_lt (α := List Value) (n := xs.length) (p := fun i cs => ∃ hi : i < xs.length, cs.length = n ∧ w.rangeAt b (off + i * n) cs ∧ C B w cs xs[i]) (fun i hi => by
   obtain ⟨cs, h1, h2, h3⟩ := hc i hi
   exact ⟨cs, hi, h1, h2, h3⟩)
  have hl := flat_len (n := n) (F := F) (k := xs.length) fun i hi => (hF i hi).2.1
  refine ⟨F, fun i hi => ⟨(hF i hi).2.1, (hF i hi).2.2.2⟩, hl, fun ad had j u hu => ?_⟩
  obtain rfl := Option.some.inj had
  have hj := (List.getElem?_eq_some_iff.1 hu).1
  rw [hl] at hj
  have hi : j / n < xs.length := Nat.div_lt_of_lt_mul (by rw [Nat.mul_comm]; exact hj)
  have hjn : j % n < n := Nat.mod_lt _ hn
  have hdm : j / n * n + j % n = j := by rw [Nat.mul_comm]; exact Nat.div_add_mod j n
  rw [← hdm, flat_get (fun i hi => (hF i hi).2.1) hi hjn] at hu
  have := (hF (j / n) hi).2.2.1 (j % n) u hu
  rw [Go.WideShapes.add_plain, ← hdm, ← Nat.add_assoc]
  exact this
 ·obtain rfl : xs = [] := List.eq_nil_of_length_eq_zero (by omega)
  exact ⟨fun _ => [], fun i hi => by simp at hi, by simp, fun ad _ j u hu => by simp at hu⟩
theorem RowT.of_own {α : Type} {n : Nat} {C : Nat → World → List Value → α → Prop} {e : TypeId} {v : Value} {xs : List α} {cs : List Value} (h : w.ownsRow 0 e n v xs.length cs)
  (hx : ∀ i (hi : i < xs.length), ∃ c, c.length = n ∧ (∀ j u, c[j]? = some u → cs[i * n + j]? = some u) ∧ C w.heap.size w c xs[i]) : RowT n C w.heap.size w v xs := by
 obtain ⟨ao, cap, rfl, h1, h2⟩ := own_slice h
 unfold maxLen at h2
 refine ⟨⟨ao, cap, rfl, h1, by omega⟩, fun ao' len' cap' hv hp => ?_, fun len' cap' hv => by rw [hv] at h; exact own_nil h⟩
 simp only [Value.slice.injEq] at hv
 obtain ⟨rfl, rfl, rfl⟩ := hv
 obtain ⟨g, cap', he, _, _⟩ := own_some h hp
 simp only [Value.slice.injEq] at he
 obtain ⟨rfl, -, rfl⟩ := he
 refine ⟨g, 0, rfl, own_lt h rfl, Nat.le_refl _, fun i hi => ?_⟩
 obtain ⟨c, g1, g2, g3⟩ := hx i hi
 refine ⟨c, g1, fun j u hu => ?_, g3⟩
 have := g2 j u hu
 rw [Nat.zero_add]
 have h2 := h.cells (g := g) rfl _ _ this
 rw [Go.WideShapes.add_plain, Nat.zero_add] at h2
 exact h2
theorem slRoot : SlT Try.prog 26 68 4 72 := SlT.mk' (z := .agg #[.string .empty, nilS, nilS, .int .i64 0]) Try.underlying26 (by kernel_rfl) rfl (by decide)
theorem stepAN {P : Program} {ops : Array Oper} {o : Oper} {a : Act} {K : Act → World → Prop} {Q : Exit → Act → World → Prop} {E : Prop} {tt e : TypeId} {size bytes : Nat} (T : SlT P tt e size bytes)
  (hgd : o.guard = none) (s x : Operand)
  (ho : o.op = .call { callee := .builtin .append, args := #[s, x], argTypes := #[tt, tt] })
  {v : Value} {n : Nat} {xs : List Value} {ao : Option Addr} {m c : Nat} {news : List Value} (hs : a.eval s = v) (hown : w.ownsRow 0 e size v n xs) (hx : a.eval x = .slice ao m c) (hl : news.length = m * size) (hnone : ao = none → m = 0 ∧ c = 0)
  (hnews : ∀ ad, ao = some ad → ∀ j u, news[j]? = some u → w.cell? (ad.add j) = some u) (h1 : ∀ u ∈ news, u.oneCell' = true)
  (h63 : n + m ≤ 1099511627776) (hbytes : bytes ≤ 128)
  (hK : ∀ ao' cap w', w'.ownsRow 0 e size (.slice ao' (n + m) cap) (n + m) (xs ++ news) → Only (fun k => v.ownBlock = some k) w w' → NewRow w v (.slice ao' (n + m) cap) → K (a.put o.dst (.slice ao' (n + m) cap)) w') :
  if Region.wanted o (yielded ops a.tmps) = true then Oper.wp P o a w K Q else E := by
 rw [if_pos (by simp [Region.wanted, hgd])]
 cases ao with
 | none =>
  obtain ⟨rfl, rfl⟩ := hnone rfl
  have hn : news = [] := List.eq_nil_of_length_eq_zero (by simpa using hl)
  subst hn
  obtain ⟨i, z, h2, h3, h4, h5, h6⟩ := T.info
  have hr := run_append_owned_none (P := P) w 0 tt o.type e i size T.und h2 v n xs hown
  obtain ⟨ao', cap', rfl, _, _⟩ := own_slice hown
  unfold Oper.wp execOp
  simp only [ho, resolve, invoke, builtin, Sem.run_bind, Sem.run_pure, Result.andThen_ok, List.map_toArray, List.map_cons, List.map_nil, hs, hx, hr]
  exact hK ao' cap' w (by simpa using hown) (Only.refl _ _) (fun k hk => .inl hk)
 | some ad =>
  have hmul : (n + m) * bytes ≤ 1099511627776 * 128 := Nat.mul_le_mul h63 hbytes
  obtain ⟨v', w', hr, r1, r2, r3, -⟩ := run_append_x (P := P) (ty := o.type) w T v n xs hown ad m c news hl (hnews ad rfl) h1 (by unfold maxLen; omega) (by omega)
  unfold Oper.wp execOp
  simp only [ho, resolve, invoke, builtin, Sem.run_bind, Sem.run_pure, Result.andThen_ok, List.map_toArray, List.map_cons, List.map_nil, hs, hx, hr]
  obtain ⟨ao', cap', rfl, _, _⟩ := own_slice r1
  exact hK ao' cap' w' r1 ((Only.refl _ w).grown r2 fun k hk => .inl hk) r3
theorem RootC.one {cs : List Value} {x : RootD} (h : RootC B w cs x) : ∀ u ∈ cs, u.oneCell' = true := by
 obtain ⟨c1, rfl, hS, -⟩ := h
 obtain ⟨o1, o2, c1, c2, rfl, -⟩ := hS.cells
 intro u hu
 simp at hu
 rcases hu with rfl | rfl | rfl | rfl <;> rfl
theorem roots_both {v v1 v2 : Value} {qs ps : List RootD} {ao1 ao2 : Option Addr} {n1 n2 c1 c2 : Nat} {F G : Nat → List Value} {wB : World}
  (hF : ∀ i (hi : i < qs.length), (F i).length = 4 ∧ RootC B wB (F i) qs[i]) (hG : ∀ i (hi : i < ps.length), (G i).length = 4 ∧ RootC B wB (G i) ps[i]) (hB : B ≤ wB.heap.size) (hO : Only (fun _ => False) wB w)
  (h : w.ownsRow 0 68 4 v (qs.length + ps.length) ((List.range qs.length).flatMap F ++ (List.range ps.length).flatMap G)) : RowT 4 RootC w.heap.size w v (qs ++ ps) := by
 have up : ∀ {cs : List Value} {x : RootD}, RootC B wB cs x → RootC w.heap.size w cs x := fun h => RootC.lift (RootC.keep h (Kp.of0 hO)) (Nat.le_trans hB hO.size) (Nat.le_refl _)
 have lF := flat_len (n := 4) (F := F) (k := qs.length) fun i hi => (hF i hi).1
 refine RowT.of_own (by simpa using h) fun i hi => ?_
 rw [List.length_append] at hi
 by_cases hq : i < qs.length
 ·refine ⟨F i, (hF i hq).1, fun j u hu => ?_, ?_⟩
  ·have hj := (List.getElem?_eq_some_iff.1 hu).1
   rw [(hF i hq).1] at hj
   have : i * 4 + j < qs.length * 4 := by omega
   rw [List.getElem?_append_left (by rw [lF]; exact this), flat_get (fun i hi => (hF i hi).1) hq hj]
   exact hu
  ·rw [List.getElem_append_left hq]
   exact up (hF i hq).2
 ·have hp : i - qs.length < ps.length := by omega
  refine ⟨G (i - qs.length), (hG _ hp).1, fun j u hu => ?_, ?_⟩
  ·have hj := (List.getElem?_eq_some_iff.1 hu).1
   rw [(hG _ hp).1] at hj
   rw [List.getElem?_append_right (by rw [lF]; omega), lF, show i * 4 + j - qs.length * 4 = (i - qs.length) * 4 + j by omega, flat_get (fun i hi => (hG i hi).1) hp hj]
   exact hu
  ·rw [List.getElem_append_right (by omega)]
   exact up (hG _ hp).2
theorem own_empty {e : TypeId} {g : Nat} (h : w.heap[g]? = some (.cells #[] e)) : w.ownsRow 0 e 4 (.slice (some ⟨g, 0, none⟩) 0 0) 0 [] :=
 ⟨rfl, .inr ⟨g, 0, #[], rfl, Nat.zero_le _, h, Nat.le_refl _, by unfold maxLen; omega, rfl, rfl⟩⟩
theorem closure_contains (x : RecD) (names : List Str) (i : Nat) : (intsOf (x.closure names)).contains (i : Int) = true ↔ x.Reach names i := by
 rw [List.contains_iff_mem, ← RecD.mem_closure]
 unfold intsOf
 rw [List.mem_map]
 constructor
 ·rintro ⟨j, hj, e⟩
  obtain rfl : j = i := by omega
  exact hj
 ·intro h
  exact ⟨i, h, rfl⟩
theorem closure_or (x : RecD) (a b : List Str) (i : Nat) : (intsOf (x.closure (a ++ b))).contains (i : Int) = ((intsOf (x.closure a)).contains (i : Int) || (intsOf (x.closure b)).contains (i : Int)) := by
 rw [Bool.eq_iff_iff, Bool.or_eq_true, closure_contains, closure_contains, closure_contains]
 exact RecD.Reach.append
set_option maxRecDepth 100000 in
set_option maxHeartbeats 4000000 in
theorem NeedsMore_any {cs cq cp : List Value} {x : RecD} {q p : ReqD} (h : RecC B w cs x) (hq : ReqC B w cq q) (hp : ReqC B w cp p) (hBw : B ≤ w.heap.size) :
  Calls Try.prog 3 #[.agg cs.toArray, .agg cq.toArray, .agg cp.toArray] w fun e w' => e = .returned (.bool true) ∧ Only (fun _ => False) w w' := by
 have HH := Lib.hid h
 have HQ := Lib.hid hq
 have HP := Lib.hid hp
 obtain ⟨v1, v2, rfl, h1, h2⟩ := h
 obtain ⟨ao, cap, rfl, -, -⟩ := h1.shape
 obtain ⟨ao2, cap2, rfl, -, -⟩ := h2.shape
 obtain ⟨v3, rfl, h3⟩ := hq
 obtain ⟨ao3, cap3, rfl, g3, -⟩ := h3.shape
 obtain ⟨v4, rfl, h4⟩ := hp
 obtain ⟨ao4, cap4, rfl, g4, -⟩ := h4.shape
 obtain ⟨n1, hn1⟩ : ∃ n, x.packs.length = n := ⟨_, rfl⟩
 obtain ⟨n2, hn2⟩ : ∃ n, x.prefs.length = n := ⟨_, rfl⟩
 obtain ⟨n3, hn3⟩ : ∃ n, q.roots.length = n := ⟨_, rfl⟩
 obtain ⟨n4, hn4⟩ : ∃ n, p.roots.length = n := ⟨_, rfl⟩
 rw [hn1, hn2] at HH
 rw [hn3] at h3 HQ
 rw [hn4] at h4 HP
 rw [hn1, hn2, hn3, hn4]
 have R3 := Lib.hid h3
 have R4 := Lib.hid h4
 have N1 := Lib.hid hn1
 have N3 := Lib.hid hn3
 have N4 := Lib.hid hn4
 obtain ⟨W0, hW0⟩ : ∃ W0, W0 = ((w.alloc (.cells #[.slice ao n1 cap, .slice ao2 n2 cap2] 25)).alloc (.cells #[.slice ao3 n3 cap3] 28)).alloc (.cells #[.slice ao4 n4 cap4] 28) := ⟨_, rfl⟩
 have HOB : Hid (Only (fun _ => False) w W0) := by rw [hW0]; exact (((Only.refl _ _).alloc _).alloc _).alloc _
 have HBox : Hid (∀ W, Only (fun _ => False) W0 W → W.cell? ⟨w.heap.size, 0, none⟩ = some (.slice ao n1 cap) ∧ W.cell? ⟨w.heap.size, 1, none⟩ = some (.slice ao2 n2 cap2) ∧ W.cell? ⟨w.heap.size + 1, 0, none⟩ = some (.slice ao3 n3 cap3) ∧ W.cell? ⟨w.heap.size + 1 + 1, 0, none⟩ = some (.slice ao4 n4 cap4)) := fun W ho => by
  have b0 : W0.heap[w.heap.size]? = some (.cells #[.slice ao n1 cap, .slice ao2 n2 cap2] 25) := by rw [hW0]; exact alloc_block (alloc_block (alloc_at rfl) _) _
  have b1 : W0.heap[w.heap.size + 1]? = some (.cells #[.slice ao3 n3 cap3] 28) := by rw [hW0]; exact alloc_block (alloc_at (by simp)) _
  have b2 : W0.heap[w.heap.size + 1 + 1]? = some (.cells #[.slice ao4 n4 cap4] 28) := by rw [hW0]; exact alloc_at (by simp)
  have c0 := only_block b0 ho (fun f => f)
  have c1 := only_block b1 ho (fun f => f)
  have c2 := only_block b2 ho (fun f => f)
  exact ⟨by rw [cell_block c0]; rfl, by rw [cell_block c0]; rfl, by rw [cell_block c1]; rfl, by rw [cell_block c2]; rfl⟩
 have HKR := fun W hW => RecC.keep HH.out (Kp.of0 (HOB.out.same hW) : Kp B w W)
 have HKQ := fun W hW => ReqC.keep HQ.out (Kp.of0 (HOB.out.same hW) : Kp B w W)
 have HKP := fun W hW => ReqC.keep HP.out (Kp.of0 (HOB.out.same hW) : Kp B w W)
 have HKR := Lib.hid HKR
 have HKQ := Lib.hid HKQ
 have HKP := Lib.hid HKP
 clear h1 h2 h3 h4 hn1 hn2 hn3 hn4 g3 g4
 go_enter Try.func3, Try.ntmps3
 go_wp2_with fail
 rw [← hW0]
 clear hW0
 have hEnd : ∀ W, Only (fun _ => False) W0 W → Calls Try.prog 7 #[] W fun e w' => e = .returned (.bool true) ∧ Only (fun _ => False) W w' := fun W _ => fixed10_any W
 have HEnd := Lib.hid hEnd
 clear hEnd
 refine (Great7_any (HKR.out W0 (Only.refl _ _))).mono ?_
 rintro e w1 ⟨bb, rfl, hb, O1⟩
 have HB1 := Lib.hid hb
 have HO1 := Lib.hid O1
 obtain ⟨k0, k1, k2, k3⟩ := HBox.out w1 HO1.out
 clear hb O1
 cases bb with
 | true =>
  go_wp2_with fail
  refine (HEnd.out w1 HO1.out).mono ?_
  rintro e w2 ⟨rfl, O2⟩
  have HO2 := Lib.hid (HO1.out.same O2)
  clear O2
  go_wp2_with fail
  go_ret
  exact ⟨rfl, HOB.out.same HO2.out⟩
 | false =>
 go_wp2_with fail
 refine (Great8_any (HKQ.out w1 HO1.out)).mono ?_
 rintro e w2 ⟨bb, rfl, hb, O2⟩
 have HB2 := Lib.hid hb
 have HO2 := Lib.hid (HO1.out.same O2)
 clear hb O2 k0 k1 k2 k3
 obtain ⟨k0, k1, k2, k3⟩ := HBox.out w2 HO2.out
 cases bb with
 | true =>
  go_wp2_with fail
  refine (HEnd.out w2 HO2.out).mono ?_
  rintro e w3 ⟨rfl, O3⟩
  have HO3 := Lib.hid (HO2.out.same O3)
  clear O3
  go_wp2_with fail
  go_ret
  exact ⟨rfl, HOB.out.same HO3.out⟩
 | false =>
 go_wp2_with fail
 refine (Great8_any (HKP.out w2 HO2.out)).mono ?_
 rintro e w3 ⟨bb, rfl, hb, O3⟩
 have HB3 := Lib.hid hb
 have HO3 := Lib.hid (HO2.out.same O3)
 clear hb O3 k0 k1 k2 k3
 obtain ⟨k0, k1, k2, k3⟩ := HBox.out w3 HO3.out
 cases bb with
 | true =>
  go_wp2_with fail
  refine (HEnd.out w3 HO3.out).mono ?_
  rintro e w4 ⟨rfl, O4⟩
  have HO4 := Lib.hid (HO3.out.same O4)
  clear O4
  go_wp2_with fail
  go_ret
  exact ⟨rfl, HOB.out.same HO4.out⟩
 | false =>
 have HSm : Hid (SmallRec x) := by have := HB1.out; simpa [Hid] using this
 have hs3 : n3 ≤ 40 := by have := HB2.out; have h := N3.out; rw [← h]; simpa using this
 have hs4 : n4 ≤ 40 := by have := HB3.out; have h := N4.out; rw [← h]; simpa using this
 clear HB1 HB2 HB3 HO1 HO2
 go_upto_region 3 with fail
 go_cut [7, 8] (fun v7 v8 wx => Hid (Only (fun _ => False) W0 wx) ∧ ∃ a1 c1 a2 c2, v7 = .slice a1 (intsOf (x.closure q.names)).length c1 ∧ v8 = .slice a2 (intsOf (x.closure p.names)).length c2 ∧ Hid (Ints wx (.slice a1 (intsOf (x.closure q.names)).length c1) (intsOf (x.closure q.names))) ∧ Hid (Ints wx (.slice a2 (intsOf (x.closure p.names)).length c2) (intsOf (x.closure p.names))))
 case first =>
  have HCa : Hid (∀ W, Only (fun _ => False) w3 W → Calls Try.prog 8 #[.agg #[.slice ao n1 cap, .slice ao2 n2 cap2], .agg #[.slice ao3 n3 cap3]] W fun e w' => ∃ v, e = .returned v ∧ Ints w' v (intsOf (x.closure q.names)) ∧ Only (fun _ => False) W w') := fun W hW =>
   Closure_ints (HKR.out W (HO3.out.same hW)) (HKQ.out W (HO3.out.same hW)) HSm.out (by rw [N3.out]; omega)
  have HCb : Hid (∀ W, Only (fun _ => False) w3 W → Calls Try.prog 8 #[.agg #[.slice ao n1 cap, .slice ao2 n2 cap2], .agg #[.slice ao4 n4 cap4]] W fun e w' => ∃ v, e = .returned v ∧ Ints w' v (intsOf (x.closure p.names)) ∧ Only (fun _ => False) W w') := fun W hW =>
   Closure_ints (HKR.out W (HO3.out.same hW)) (HKP.out W (HO3.out.same hW)) HSm.out (by rw [N4.out]; omega)
  have HK : Hid (∀ W, Only (fun _ => False) w3 W → W.cell? ⟨w.heap.size, 0, none⟩ = some (.slice ao n1 cap) ∧ W.cell? ⟨w.heap.size, 1, none⟩ = some (.slice ao2 n2 cap2) ∧ W.cell? ⟨w.heap.size + 1, 0, none⟩ = some (.slice ao3 n3 cap3) ∧ W.cell? ⟨w.heap.size + 1 + 1, 0, none⟩ = some (.slice ao4 n4 cap4)) := fun W hW => HBox.out W (HO3.out.same hW)
  have hS0 := HK.out w3.drew ((Only.refl _ _).drew)
  refine wp_region_G (n := 8) (E := fun _ => false) (S := fun W => W.cell? ⟨w.heap.size, 0, none⟩ = some (.slice ao n1 cap) ∧ W.cell? ⟨w.heap.size, 1, none⟩ = some (.slice ao2 n2 cap2) ∧ W.cell? ⟨w.heap.size + 1, 0, none⟩ = some (.slice ao3 n3 cap3) ∧ W.cell? ⟨w.heap.size + 1 + 1, 0, none⟩ = some (.slice ao4 n4 cap4)) (by kernel_rfl) rfl hS0 (fun hHeld => ?_)
  refine tqK (i := 0) (v := ?_) rfl ?_ ?_
  rotate_left
  ·(intro w hSw; (try dsimp only at hSw); go_simp <;> (try with_reducible rfl))
  try simp only [Act.put, zq1, zq3, zq4, zq5, zq6]
  refine tqK (i := 1) (v := ?_) rfl ?_ ?_
  rotate_left
  ·(intro w hSw; (try dsimp only at hSw); go_simp <;> (try with_reducible rfl))
  try simp only [Act.put, zq1, zq2, zq3, zq4, zq5, zq6]
  refine tqK (i := 3) (v := ?_) rfl ?_ ?_
  rotate_left
  ·(intro w hSw; (try dsimp only at hSw); go_simp <;> (try with_reducible rfl))
  try simp only [Act.put, zq1, zq2, zq3, zq4, zq5, zq6]
  refine tqK (i := 4) (v := ?_) rfl ?_ ?_
  rotate_left
  ·(intro w hSw; (try dsimp only at hSw); go_simp <;> (try with_reducible rfl))
  try simp only [Act.put, zq1, zq2, zq3, zq4, zq5, zq6]
  refine wpAnyG_ready (rs := [2]) (by kernel_rfl) (by simp) ?_
  refine AllReadyG.cons (i := 2) rfl (fun K hK => ?_) ?_
  ·(go_simp; refine (HCa.out _ (by repeat (first | exact Only.refl _ _ | apply Only.drew | apply Only.alloc | apply Only.drewN))).mono ?_; rintro e w5 ⟨va, rfl, ia, o5⟩; obtain ⟨aa, ca, rfl, -, -⟩ := ia.shape; have oA : Only (fun _ => False) w3 w5 := Only.same (by repeat (first | exact Only.refl _ _ | apply Only.drew | apply Only.alloc | apply Only.drewN)) o5; try go_wp2_with fail)
   refine hK.out _ _ ?_ (fun hHeld => ?_)
   ·(try dsimp only) <;> (exact HK.out _ oA)
   clear hK K
   try simp only [Act.put, zq1, zq2, zq3, zq4, zq5, zq6]
   refine wpAnyG_ready (rs := [5]) (by kernel_rfl) (by simp) ?_
   refine AllReadyG.cons (i := 5) rfl (fun K hK => ?_) ?_
   ·(go_simp; refine (HCb.out _ (by exact oA)).mono ?_; rintro e w6 ⟨vb, rfl, ib, o6⟩; obtain ⟨ab, cb, rfl, -, -⟩ := ib.shape; have oB := oA.same o6; try go_wp2_with fail)
    refine hK.out _ _ ?_ (fun hHeld => ?_)
    ·(try dsimp only) <;> (exact HK.out _ oB)
    clear hK K
    try simp only [Act.put, zq1, zq2, zq3, zq4, zq5, zq6]
    refine tqW (i := 6) (v := ?_) rfl (.inr (by assumption)) ?_ ?_
    rotate_left
    ·(intro w; go_simp <;> (try with_reducible rfl))
    try simp only [Act.put, zq1, zq2, zq3, zq4, zq5, zq6]
    refine tqW (i := 7) (v := ?_) rfl (.inr (by assumption)) ?_ ?_
    rotate_left
    ·(intro w; go_simp <;> (try with_reducible rfl))
    try simp only [Act.put, zq1, zq2, zq3, zq4, zq5, zq6]
    refine wpAnyG_done (by kernel_rfl) ?_ _
    have HIa := Lib.hid (ia.only0 o6)
    have HIb := Lib.hid ib
    have HOe := Lib.hid (HO3.out.same oB)
    clear ia ib o5 o6 oA oB hHeld
    go_wp2_with fail
    go_meet
    exact ⟨HOe, _, _, _, _, rfl, rfl, HIa, HIb⟩
   exact AllReadyG.nil
  exact AllReadyG.nil
 case rest =>
  obtain ⟨HO5, a1, c1, a2, c2, rfl, rfl, HIa, HIb⟩ := hcut
  clear k0 k1 k2 k3 HO3
  obtain ⟨F, hF, hF1, hF2⟩ := (R3.out.keep RootC.keep (Kp.of0 (HOB.out.same HO5.out))).flat (by decide)
  obtain ⟨G, hG, hG1, hG2⟩ := (R4.out.keep RootC.keep (Kp.of0 (HOB.out.same HO5.out))).flat (by decide)
  obtain ⟨L1, hL1⟩ : ∃ L, L = (List.range q.roots.length).flatMap F := ⟨_, rfl⟩
  obtain ⟨L2, hL2⟩ : ∃ L, L = (List.range p.roots.length).flatMap G := ⟨_, rfl⟩
  have HL1 : Hid (L1.length = n3 * 4) := by rw [hL1, hF1, N3.out]; exact rfl
  have HL2 : Hid (L2.length = n4 * 4) := by rw [hL2, hG1, N4.out]; exact rfl
  have hone : ∀ {k : Nat} {F : Nat → List Value} {xs : List RootD} {W : World}, (∀ i (hi : i < xs.length), (F i).length = 4 ∧ RootC B W (F i) xs[i]) → xs.length = k → ∀ u ∈ (List.range k).flatMap F, u.oneCell' = true := by
   intro k F xs W h hk u hu
   subst hk
   obtain ⟨i, hi, hu⟩ := List.mem_flatMap.1 hu
   exact RootC.one (h i (List.mem_range.1 hi)).2 u hu
  have HE1 : Hid (∀ u ∈ L1, u.oneCell' = true) := by rw [hL1]; exact hone hF rfl
  have HE2 : Hid (∀ u ∈ L2, u.oneCell' = true) := by rw [hL2]; exact hone hG rfl
  have HW1 : Hid (∀ W, Only (fun _ => False) wc W → ∀ ad, ao3 = some ad → ∀ j u, L1[j]? = some u → W.cell? (ad.add j) = some u) := fun W hW ad had j u hu => by
   have h1 := hF2 ad had j u (by rw [← hL1]; exact hu)
   rw [World.cell?_of_block (w := wc) (hW.block _ (World.block_lt_of_cell? _ _ h1) (fun f => f))]
   exact h1
  have HW2 : Hid (∀ W, Only (fun _ => False) wc W → ∀ ad, ao4 = some ad → ∀ j u, L2[j]? = some u → W.cell? (ad.add j) = some u) := fun W hW ad had j u hu => by
   have h1 := hG2 ad had j u (by rw [← hL2]; exact hu)
   rw [World.cell?_of_block (w := wc) (hW.block _ (World.block_lt_of_cell? _ _ h1) (fun f => f))]
   exact h1
  have HZ1 : Hid (ao3 = none → n3 = 0 ∧ cap3 = 0) := fun e => R3.out.nil n3 cap3 (by rw [e])
  have HZ2 : Hid (ao4 = none → n4 = 0 ∧ cap4 = 0) := fun e => R4.out.nil n4 cap4 (by rw [e])
  have HCc : Hid (∀ W ao6 cap6, Only (fun _ => False) wc W → W.ownsRow 0 68 4 (.slice ao6 (n3 + n4) cap6) (n3 + n4) (L1 ++ L2) → Calls Try.prog 8 #[.agg #[.slice ao n1 cap, .slice ao2 n2 cap2], .agg #[.slice ao6 (n3 + n4) cap6]] W fun e w' => ∃ v, e = .returned v ∧ Ints w' v (intsOf (x.closure (q.names ++ p.names))) ∧ Only (fun _ => False) W w') := fun W ao6 cap6 hW hown => by
   have hBW : B ≤ W.heap.size := Nat.le_trans hBw ((HOB.out.same HO5.out).same hW).size
   have hr : RowT 4 RootC W.heap.size W (.slice ao6 (n3 + n4) cap6) (q.roots ++ p.roots) := by
    rw [hL1, hL2] at hown
    have e3 := N3.out
    have e4 := N4.out
    rw [← e3, ← e4] at hown ⊢
    exact roots_both (v1 := nilS) (v2 := nilS) (ao1 := none) (ao2 := none) (n1 := 0) (n2 := 0) (c1 := 0) (c2 := 0) hF hG (Nat.le_trans hBw (HOB.out.same HO5.out).size) hW hown
   have := Closure_ints (q := ⟨q.roots ++ p.roots⟩) (RecC.lift (HKR.out W (HO5.out.same hW)) hBW (Nat.le_refl _)) ⟨_, rfl, hr⟩ HSm.out (by rw [List.length_append, N3.out, N4.out]; omega)
   rw [show ReqD.names ⟨q.roots ++ p.roots⟩ = q.names ++ p.names by simp [ReqD.names]] at this
   exact this
  have HK4 : Hid (∀ W, Only (fun _ => False) wc W → W.cell? ⟨w.heap.size, 0, none⟩ = some (.slice ao n1 cap) ∧ W.cell? ⟨w.heap.size, 1, none⟩ = some (.slice ao2 n2 cap2) ∧ W.cell? ⟨w.heap.size + 1, 0, none⟩ = some (.slice ao3 n3 cap3) ∧ W.cell? ⟨w.heap.size + 1 + 1, 0, none⟩ = some (.slice ao4 n4 cap4)) := fun W hW => HBox.out W (HO5.out.same hW)
  clear hF hF1 hF2 hG hG1 hG2 hL1 hL2 hone
  have hS0 := HK4.out wc.drew ((Only.refl _ _).drew)
  go_wp2_with fail
  go_cut [9] (fun v9 wx => Hid (Only (fun _ => False) W0 wx) ∧ ∃ a3 c3, v9 = .slice a3 (intsOf (x.closure (q.names ++ p.names))).length c3 ∧ Hid (Ints wx (.slice a3 (intsOf (x.closure (q.names ++ p.names))).length c3) (intsOf (x.closure (q.names ++ p.names)))) ∧ Hid (Ints wx (.slice a1 (intsOf (x.closure q.names)).length c1) (intsOf (x.closure q.names))) ∧ Hid (Ints wx (.slice a2 (intsOf (x.closure p.names)).length c2) (intsOf (x.closure p.names))))
  case first =>
   refine wp_region_G (n := 11) (E := fun _ => false) (S := fun W => W.cell? ⟨w.heap.size, 0, none⟩ = some (.slice ao n1 cap) ∧ W.cell? ⟨w.heap.size, 1, none⟩ = some (.slice ao2 n2 cap2) ∧ W.cell? ⟨w.heap.size + 1, 0, none⟩ = some (.slice ao3 n3 cap3) ∧ W.cell? ⟨w.heap.size + 1 + 1, 0, none⟩ = some (.slice ao4 n4 cap4)) (by kernel_rfl) rfl hS0 (fun hHeld => ?_)
   refine tqK (i := 0) (v := ?_) rfl ?_ ?_
   rotate_left
   ·(intro w hSw; (try dsimp only at hSw); go_simp <;> (try with_reducible rfl))
   try simp only [Act.put, zq1, zq3, zq4, zq5, zq6]
   refine tqW (i := 2) (v := ?_) rfl (.inr (by assumption)) ?_ ?_
   rotate_left
   ·(intro w; go_simp <;> (try with_reducible rfl))
   try simp only [Act.put, zq1, zq2, zq3, zq4, zq5, zq6]
   refine tqK (i := 3) (v := ?_) rfl ?_ ?_
   rotate_left
   ·(intro w hSw; (try dsimp only at hSw); go_simp <;> (try with_reducible rfl))
   try simp only [Act.put, zq1, zq2, zq3, zq4, zq5, zq6]
   refine tqW (i := 5) (v := ?_) rfl (.inr (by assumption)) ?_ ?_
   rotate_left
   ·(intro w; go_simp <;> (try with_reducible rfl))
   try simp only [Act.put, zq1, zq2, zq3, zq4, zq5, zq6]
   refine tqK (i := 6) (v := ?_) rfl ?_ ?_
   rotate_left
   ·(intro w hSw; (try dsimp only at hSw); go_simp <;> (try with_reducible rfl))
   try simp only [Act.put, zq1, zq2, zq3, zq4, zq5, zq6]
   refine wpAnyG_ready (rs := [1]) (by kernel_rfl) (by simp) ?_
   refine AllReadyG.cons (i := 1) rfl (fun K hK => ?_) ?_
   ·go_simp
    refine hK.out _ _ ?_ (fun hHeld => ?_)
    ·(try dsimp only) <;> (exact HK4.out _ (by repeat (first | exact Only.refl _ _ | apply Only.drew | apply Only.alloc | apply Only.drewN)))
    clear hK K
    try simp only [Act.put, zq1, zq2, zq3, zq4, zq5, zq6]
    refine wpAnyG_ready (rs := [4]) (by kernel_rfl) (by simp) ?_
    refine AllReadyG.cons (i := 4) rfl (fun K hK => ?_) ?_
    ·(refine stepAN slRoot (by rfl) (.tmp 29) (.tmp 31) (by rfl) (by rfl) (own_empty (by exact heap_alloc_new _ _)) (by rfl) HL1.out HZ1.out (by exact HW1.out _ (by repeat (first | exact Only.refl _ _ | apply Only.drew | apply Only.alloc | apply Only.drewN))) HE1.out (by omega) (by decide) ?_; intro ao5 cap5 w5 r5 o5 nr5; simp only [Nat.zero_add, List.nil_append] at r5 nr5 ⊢; have oA : Only (fun _ => False) wc w5 := Only.trans (by repeat (first | exact Only.refl _ _ | apply Only.drew | apply Only.alloc | apply Only.drewN)) o5 (fun k hk => .inr (by simp [Value.ownBlock] at hk; (try simp); omega)))
     refine hK.out _ _ ?_ (fun hHeld => ?_)
     ·(try dsimp only) <;> (exact HK4.out _ oA)
     clear hK K
     try simp only [Act.put, zq1, zq2, zq3, zq4, zq5, zq6]
     refine wpAnyG_ready (rs := [7]) (by kernel_rfl) (by simp) ?_
     refine AllReadyG.cons (i := 7) rfl (fun K hK => ?_) ?_
     ·(refine stepAN slRoot (by rfl) (.tmp 32) (.tmp 34) (by rfl) (by rfl) r5 (by rfl) HL2.out HZ2.out (by exact HW2.out _ oA) HE2.out (by omega) (by decide) ?_; intro ao6 cap6 w6 r6 o6 nr6; have oB : Only (fun _ => False) wc w6 := Only.trans oA o6 (fun k hk => .inr (by rcases nr5 k hk with h | h; simp [Value.ownBlock] at h; omega; (try simp at h); omega)))
      refine hK.out _ _ ?_ (fun hHeld => ?_)
      ·(try dsimp only) <;> (exact HK4.out _ oB)
      clear hK K
      try simp only [Act.put, zq1, zq2, zq3, zq4, zq5, zq6]
      refine tqW (i := 8) (v := ?_) rfl (.inr (by assumption)) ?_ ?_
      rotate_left
      ·(intro w; go_simp <;> (try with_reducible rfl))
      try simp only [Act.put, zq1, zq2, zq3, zq4, zq5, zq6]
      refine wpAnyG_ready (rs := [9]) (by kernel_rfl) (by simp) ?_
      refine AllReadyG.cons (i := 9) rfl (fun K hK => ?_) ?_
      ·(go_simp; refine (HCc.out _ _ _ oB r6).mono ?_; rintro e w7 ⟨vc, rfl, ic, o7⟩; obtain ⟨ac, cc, rfl, -, -⟩ := ic.shape; have oC := oB.same o7; try go_wp2_with fail)
       refine hK.out _ _ ?_ (fun hHeld => ?_)
       ·(try dsimp only) <;> (exact HK4.out _ oC)
       clear hK K
       try simp only [Act.put, zq1, zq2, zq3, zq4, zq5, zq6]
       refine tqW (i := 10) (v := ?_) rfl (.inr (by assumption)) ?_ ?_
       rotate_left
       ·(intro w; go_simp <;> (try with_reducible rfl))
       try simp only [Act.put, zq1, zq2, zq3, zq4, zq5, zq6]
       refine wpAnyG_done (by kernel_rfl) ?_ _
       have HIc := Lib.hid ic
       have HOe := Lib.hid (HO5.out.same oC)
       have HIa2 := Lib.hid (HIa.out.only0 oC)
       have HIb2 := Lib.hid (HIb.out.only0 oC)
       clear ic o5 o6 o7 oA oB oC r5 r6 nr5 nr6 hHeld
       go_wp2_with fail
       go_meet
       exact ⟨HOe, _, _, rfl, HIc, HIa2, HIb2⟩
      exact AllReadyG.nil
     exact AllReadyG.nil
    exact AllReadyG.nil
   exact AllReadyG.nil
  case rest =>
   clear hS0
   clear HIa HIb HO5 HCc HW1 HW2 HE1 HE2 HL1 HL2 HZ1 HZ2 HK4
   obtain ⟨HO6, a3, c3, rfl, HIc, HIa, HIb⟩ := hcut
   obtain ⟨la, hla⟩ : ∃ l, intsOf (x.closure q.names) = l := ⟨_, rfl⟩
   obtain ⟨lb, hlb⟩ : ∃ l, intsOf (x.closure p.names) = l := ⟨_, rfl⟩
   obtain ⟨lc, hlc⟩ : ∃ l, intsOf (x.closure (q.names ++ p.names)) = l := ⟨_, rfl⟩
   have hor := closure_or x q.names p.names
   have hle1 : la.length ≤ lc.length := by
    rw [← hla, ← hlc]; simp only [intsOf, List.length_map]
    exact x.closure_mono fun s hs => List.mem_append_left _ hs
   have hle2 : lb.length ≤ lc.length := by
    rw [← hlb, ← hlc]; simp only [intsOf, List.length_map]
    exact x.closure_mono fun s hs => List.mem_append_right _ hs
   rw [hla] at HIa
   rw [hlb] at HIb
   rw [hlc] at HIc
   rw [hla, hlb, hlc] at *
   rw [hla, hlb, hlc] at hor
   have HOr := Lib.hid hor
   obtain ⟨ma, hma⟩ : ∃ m, la.length = m := ⟨_, rfl⟩
   obtain ⟨mb, hmb⟩ : ∃ m, lb.length = m := ⟨_, rfl⟩
   obtain ⟨mc, hmc⟩ : ∃ m, lc.length = m := ⟨_, rfl⟩
   rw [hma] at HIa hle1 ⊢
   rw [hmb] at HIb hle2 ⊢
   rw [hmc] at HIc hle1 hle2 ⊢
   clear hor hla hlb hlc hma hmb hmc
   obtain ⟨k0, k1, k2, k3⟩ := HBox.out wc HO6.out
   have hn1 : n1 ≤ 30 := by rw [← N1.out]; exact HSm.out.packs
   go_wp2_with fail
   go_loopw [41] (fun vi wr => Hid (Only (fun _ => False) W0 wr) ∧ (∃ i : Nat, vi = .int .i64 i ∧ i ≤ n1) ∧ Hid (Ints wr (.slice a1 ma c1) la) ∧ Hid (Ints wr (.slice a2 mb c2) lb) ∧ Hid (Ints wr (.slice a3 mc c3) lc)) (fun v _ => n1 - (intOf v).toNat)
   case atStart => exact ⟨HO6, ⟨0, rfl, Nat.zero_le _⟩, HIa, HIb, HIc⟩
   case round =>
    clear HIa HIb HIc k0 k1 k2 k3
    obtain ⟨HO, ⟨i, rfl, hi⟩, HIa, HIb, HIc⟩ := hrel
    obtain ⟨k0, k1, k2, k3⟩ := HBox.out wr HO.out
    by_cases ci : i < n1
    ·obtain ⟨ra, hra⟩ : ∃ r, la.contains (i : Int) = r := ⟨_, rfl⟩
     obtain ⟨rb, hrb⟩ : ∃ r, lb.contains (i : Int) = r := ⟨_, rfl⟩
     have hrc : lc.contains (i : Int) = (ra || rb) := by rw [HOr.out i, hra, hrb]
     have ewi : IntKind.i64.wrap ((i : Int) + 1) = (i : Int) + 1 := by rw [IntKind.wrap_i64]; omega
     have HRa := Lib.hid hra
     have HRb := Lib.hid hrb
     have HRc := Lib.hid hrc
     clear hra hrb hrc
     go_wp2_with fail
     refine (Has_any HIc.out (i : Int)).mono ?_
     rw [HRc.out]
     rintro e x1 ⟨rfl, O1⟩
     have HIa1 := Lib.hid (HIa.out.only0 O1)
     have HIb1 := Lib.hid (HIb.out.only0 O1)
     have HIc1 := Lib.hid (HIc.out.only0 O1)
     have HO1 := Lib.hid (HO.out.same O1)
     clear O1
     go_wp2_with fail
     refine (Has_any HIa1.out (i : Int)).mono ?_
     rw [HRa.out]
     rintro e x2 ⟨rfl, O2⟩
     have HIa2 := Lib.hid (HIa1.out.only0 O2)
     have HIb2 := Lib.hid (HIb1.out.only0 O2)
     have HIc2 := Lib.hid (HIc1.out.only0 O2)
     have HO2 := Lib.hid (HO1.out.same O2)
     clear O2
     cases ra with
     | true =>
      go_wp2_with fail
      go_roundw
      case rel => exact ⟨HO2, ⟨i + 1, by first | rfl | go_num, by omega⟩, HIa2, HIb2, HIc2⟩
      case measure => simp [intOf] <;> omega
     | false =>
      go_wp2_with fail
      refine (Has_any HIb2.out (i : Int)).mono ?_
      rw [HRb.out]
      rintro e x3 ⟨rfl, O3⟩
      have HIa3 := Lib.hid (HIa2.out.only0 O3)
      have HIb3 := Lib.hid (HIb2.out.only0 O3)
      have HIc3 := Lib.hid (HIc2.out.only0 O3)
      have HO3 := Lib.hid (HO2.out.same O3)
      clear O3
      cases rb with
      | true =>
       go_wp2_with fail
       go_roundw
       case rel => exact ⟨HO3, ⟨i + 1, by first | rfl | go_num, by omega⟩, HIa3, HIb3, HIc3⟩
       case measure => simp [intOf] <;> omega
      | false =>
       go_wp2_with fail
       go_roundw
       case rel => exact ⟨HO3, ⟨i + 1, by first | rfl | go_num, by omega⟩, HIa3, HIb3, HIc3⟩
       case measure => simp [intOf] <;> omega
    ·obtain rfl : n1 = i := by omega
     go_wp2_with fail
     refine (HEnd.out wr HO.out).mono ?_
     rintro e x1 ⟨rfl, O1⟩
     have HO1 := Lib.hid (HO.out.same O1)
     clear O1
     go_wp2_with fail
     go_ret
     exact ⟨rfl, HOB.out.same HO1.out⟩
end
end Go.Proofs.Ytbapkcnfacklaaa

/- The walks of package atoms: Number, Help, New. -/
import Derived.Test.YtbapkcnfacklaaaAtoms2
import Derived.Test.YtbapkcnfacklaaaRegs
import Derived.Deep.DrawnRows
set_option linter.unusedVariables false
namespace Go.Proofs.Ytbapkcnfacklaaa
open Go.RowKit
attribute [local go_sem ↓] Go.wp_at_zero Go.wp_at_succ
theorem slAtom : SlT Try.prog 107 37 4 32 := SlT.mk' (z := .agg #[.int .u8 0, .int .i64 0, .int .i64 0, .int .i64 0]) Try.underlying107 (by kernel_rfl) rfl (by decide)
def Tab.num (T : Tab) (x : At) : Tab × Int :=
 if x ∈ T.l then (T, (numOf T.l x : Int)) else if T.limit ≤ T.l.length then ({ T with full := true }, 0) else ({ T with l := T.l ++ [x] }, (T.l.length : Int) + 1)
section
variable {w : World} {g : Tag} {b : Nat} {V : TabV} {T : Tab}
theorem TabTo.refl (H : TabAt w g b V T) : TabTo w g b T w := ⟨g, V, H, Agree.refl _ _, Only.refl _ _⟩
theorem TabTo.after {w1 w2 : World} (o1 : Only (fun _ => False) w w1) {T2 : Tab} (h : TabTo w1 g b T2 w2) : TabTo w g b T2 w2 := by
 obtain ⟨g2, V2, H2, A2, O2⟩ := h
 exact ⟨g2, V2, H2, fun k hk => A2 k (Nat.lt_of_lt_of_le hk o1.size), (o1.mono (G := Mine g) fun _ f => f.elim).mine (Agree.refl _ _) O2⟩
theorem numOf_zero {l : List At} {x : At} : numOf l x = 0 ↔ x ∉ l := by
 unfold numOf
 split
 ·rename_i h; simp [h]
 ·rename_i h; simp [h]
set_option maxHeartbeats 1600000 in
theorem Number_old (H : TabAt w g b V T) {x : At} (hx : AtOk x) (hm : x ∈ T.l) :
  Calls Try.prog 30 #[.pointer (some ⟨b, 0, none⟩), encA x] w fun e w' => e = .returned (.int .i64 (numOf T.l x : Int)) ∧ TabTo w g b T w' := by
 have hO0 : Only (fun _ => False) w (w.alloc (.cells #[.int .u8 x.1, .int .i64 x.2.1, .int .i64 x.2.2.1, .int .i64 x.2.2.2] 37)) := (Only.refl _ _).alloc _
 have hl := Look_any (H.only0 hO0) hx _ rfl
 unfold encA at *
 have hpos : 0 < (numOf T.l x : Int) := by
  have : numOf T.l x ≠ 0 := fun h => (numOf_zero.1 h) hm
  omega
 have HL := Lib.hid hl
 have hto : ∀ w', Only (fun _ => False) (w.alloc (.cells #[.int .u8 x.1, .int .i64 x.2.1, .int .i64 x.2.2.1, .int .i64 x.2.2.2] 37)) w' → TabTo w g b T w' := fun w' h => TabTo.after (hO0.same h) (TabTo.refl (H.only0 (hO0.same h)))
 have HTo := Lib.hid hto
 clear hl hto hO0
 generalize (numOf T.l x : Int) = r at *
 have d1 : decide (0 < r) = true := decide_eq_true hpos
 go_enter Try.func30, Try.ntmps30
 go_wp2_with fail
 refine HL.out.mono ?_
 rintro e w' ⟨rfl, O1⟩
 have hfin := HTo.out _ O1
 clear O1 HTo
 go_wp2_with fail
 go_ret
 exact ⟨rfl, hfin⟩
theorem TabAt.setFull (H : TabAt w g b V T) : TabTo w g b { T with full := true } (w.setCell ⟨b, 4, none⟩ (.bool true)) := by
 have hF : ∀ {t : Nat × Nat}, t ≠ (21, 0) → g b ≠ t := fun {t} h e => h (e.symm.trans H.tb)
 have ho : Only (fun k => k = b) w (w.setCell ⟨b, 4, none⟩ (.bool true)) := Only.setCell (Only.refl (fun k => k = b) w) (p := ⟨b, 4, none⟩) (.inl rfl) _
 refine ⟨g, V, ⟨?_, H.tb, H.map.only ho (fun e => by have := H.tm; rw [e, H.tb] at this; simp at this), H.tm, H.l.far (hF (by decide)) _, H.ok, H.nod, H.lim, H.hlp, H.len, H.fresh.more ho.size⟩, Agree.refl _ _, (Only.refl _ w).setCell (.inl (by unfold Mine; rw [H.tb]; decide)) _⟩
 rw [set_block H.blk]; rfl
set_option maxHeartbeats 1600000 in
theorem Number_full (H : TabAt w g b V T) {x : At} (hx : AtOk x) (hm : x ∉ T.l) (hf : T.limit ≤ T.l.length) :
  Calls Try.prog 30 #[.pointer (some ⟨b, 0, none⟩), encA x] w fun e w' => e = .returned (.int .i64 0) ∧ TabTo w g b { T with full := true } w' := by
 have hO0 : Only (fun _ => False) w (w.alloc (.cells #[.int .u8 x.1, .int .i64 x.2.1, .int .i64 x.2.2.1, .int .i64 x.2.2.2] 37)) := (Only.refl _ _).alloc _
 have hl := Look_any (H.only0 hO0) hx 0 (by rw [numOf_zero.2 hm]; rfl)
 unfold encA at *
 have HL := Lib.hid hl
 have HO0 := Lib.hid hO0
 clear hl hO0
 have hlen := H.len
 have hlim := H.lim
 go_enter Try.func30, Try.ntmps30
 go_wp2_with fail
 refine HL.out.mono ?_
 rintro e w1 ⟨rfl, O1⟩
 have hO1 := HO0.out.same O1
 have H1 := H.only0 hO1
 have q1 : w1.cell? ⟨b, 1, none⟩ = some V.vl := by rw [cell_block H1.blk]; rfl
 have q2 : w1.cell? ⟨b, 2, none⟩ = some (.int .i64 T.limit) := by rw [cell_block H1.blk]; rfl
 have q4 : w1.cell? ⟨b, 4, none⟩ = some (.bool T.full) := by rw [cell_block H1.blk]; rfl
 have f4 := free_block H1.blk 4
 obtain ⟨al, cl, hvl, _, _⟩ := own_slice H1.l.own
 rw [hvl] at q1
 have d1 : decide ((T.l.length : Int) ≥ (T.limit : Int)) = true := decide_eq_true (by omega)
 have d2 : decide (T.limit ≤ T.l.length) = true := decide_eq_true hf
 have hfin : ∀ n, TabTo w g b { T with full := true } ((w1.setCell ⟨b, 4, none⟩ (.bool true)).drewN n) := fun n => TabTo.after (hO1.drewN n) ((H1.only0 ((Only.refl _ _).drewN n)).setFull)
 have HFin := Lib.hid hfin
 have sd : ∀ (W : World) n a v, (W.drewN n).setCell a v = (W.setCell a v).drewN n := fun _ _ _ _ => rfl
 clear O1 hfin
 go_wp2_with fail
 go_quiet (fail)
 go_wp2_with fail
 go_ret
 exact ⟨rfl, HFin.out _⟩
theorem TabAt.mid (H : TabAt w g b V T) {w5 : World} (O : Only (fun k => g k = (23, 0)) w w5) (v' : Value) :
  (w5.setCell ⟨b, 1, none⟩ v').heap[b]? = some (.cells #[.map (some V.bm), v', .int .i64 T.limit, .int .i64 T.helps, .bool T.full] 109 (0, 0)) ∧ MapIs (w5.setCell ⟨b, 1, none⟩ v') V.bm T.l := by
 refine ⟨?_, ?_⟩
 ·rw [set_block (only_block H.blk O (by rw [H.tb]; simp))]; rfl
 ·refine (H.map.only O (by rw [H.tm]; simp)).only (F := fun k => k = b) (Only.setCell (Only.refl (fun k => k = b) w5) (p := ⟨b, 1, none⟩) (.inl rfl) _) (fun e => ?_)
  have := H.tm; rw [e, H.tb] at this; simp at this
theorem TabAt.grow (H : TabAt w g b V T) {x : At} (hx : AtOk x) (hm : x ∉ T.l) (hf : T.l.length < T.limit) {w5 w6 : World} {lo : Nat} {v' : Value} (O : Only (fun k => g k = (23, 0)) w w5) (hlo : w.heap.size ≤ lo)
  (R : RowZ w5 (Tag.put g lo w5.heap.size (23, 0)) (23, 0) 37 4 v' (T.l.length + 1) (T.l.flatMap cellsA ++ cellsA x))
  (M : MapIs w6 V.bm (T.l ++ [x])) (O6 : Only (fun k => k = V.bm) (w5.setCell ⟨b, 1, none⟩ v').drew w6) : TabTo w g b { T with l := T.l ++ [x] } w6 := by
 obtain ⟨h1, h2⟩ := H.mid O v'
 have hb := lt_block H.blk
 have hbm : V.bm < w.heap.size := by obtain ⟨es, h, _⟩ := H.map; exact lt_block h
 have hgb : Tag.put g lo w5.heap.size (23, 0) b = (21, 0) := by rw [Tag.put_old _ _ (by omega)]; exact H.tb
 have hgm : Tag.put g lo w5.heap.size (23, 0) V.bm = (22, 0) := by rw [Tag.put_old _ _ (by omega)]; exact H.tm
 have hs6 : w5.heap.size ≤ w6.heap.size := by have := O6.size; simpa using this
 refine ⟨Tag.put g lo w5.heap.size (23, 0), ⟨V.bm, v'⟩, ⟨?_, hgb, M, hgm, ?_, ?_, ?_, H.lim, H.hlp, by simp; omega, ?_⟩, Agree.put _ _ hlo, ?_⟩
 ·refine only_block (F := fun k => k = V.bm) (w := (w5.setCell ⟨b, 1, none⟩ v').drew) h1 O6 (fun e => ?_)
  rw [e, hgm] at hgb; simp at hgb
 ·have := ((R.far (p := ⟨b, 1, none⟩) (by rw [hgb]; simp) v').drew).only O6 (fun k hk e => by rw [e, hgm] at hk; simp at hk)
  simpa [List.flatMap_append] using this
 ·intro y hy
  rcases List.mem_append.1 hy with h | h
  ·exact H.ok y h
  ·rw [List.mem_singleton.1 h]; exact hx
 ·refine List.nodup_append.2 ⟨H.nod, by simp, fun a ha c hc e => ?_⟩
  rw [List.mem_singleton.1 hc] at e
  exact hm (e ▸ ha)
 ·exact (H.fresh.put _ O.size).more hs6
 ·have o1 : Only (Mine g) w (w5.setCell ⟨b, 1, none⟩ v').drew := ((O.mono (G := Mine g) fun k hk => by unfold Mine; rw [hk]; decide).setCell (.inl (by unfold Mine; rw [H.tb]; decide)) _).drew
  exact o1.same (O6.mono fun k hk => by subst hk; unfold Mine; rw [H.tm]; decide)
set_option maxRecDepth 100000 in
set_option maxHeartbeats 3200000 in
theorem Number_new (H : TabAt w g b V T) {x : At} (hx : AtOk x) (hm : x ∉ T.l) (hf : T.l.length < T.limit) :
  Calls Try.prog 30 #[.pointer (some ⟨b, 0, none⟩), encA x] w fun e w' => e = .returned (.int .i64 ((T.l.length : Int) + 1)) ∧ TabTo w g b { T with l := T.l ++ [x] } w' := by
 have hO0 : Only (fun _ => False) w (w.alloc (.cells #[.int .u8 x.1, .int .i64 x.2.1, .int .i64 x.2.2.1, .int .i64 x.2.2.2] 37)) := (Only.refl _ _).alloc _
 have hl := Look_any (H.only0 hO0) hx 0 (by rw [numOf_zero.2 hm]; rfl)
 have hbx : ∀ i, (w.alloc (.cells #[.int .u8 x.1, .int .i64 x.2.1, .int .i64 x.2.2.1, .int .i64 x.2.2.2] 37)).cell? ⟨w.heap.size, i, none⟩ = (#[.int .u8 x.1, .int .i64 x.2.1, .int .i64 x.2.2.1, .int .i64 x.2.2.2] : Array Value)[i]? := fun i => cell_block (heap_alloc_new w _) i
 unfold encA at *
 have HL := Lib.hid hl
 have HO0 := Lib.hid hO0
 have HBx := Lib.hid hbx
 have HMem := Lib.hid hm
 have HX := Lib.hid hx
 clear hl hO0 hbx hm hx
 have hlen := H.len
 have hlim := H.lim
 obtain ⟨xk, xa, xb, xc⟩ := x
 simp only at HL HO0 HBx ⊢
 go_enter Try.func30, Try.ntmps30
 go_wp2_with fail
 generalize hW0 : w.alloc (.cells #[.int .u8 xk, .int .i64 xa, .int .i64 xb, .int .i64 xc] 37) = w0 at *
 generalize hBB : w.heap.size = B at *
 refine HL.out.mono ?_
 rintro e w1 ⟨rfl, O1⟩
 have hO1 := HO0.out.same O1
 have H1 := H.only0 hO1
 have q1 : w1.cell? ⟨b, 1, none⟩ = some V.vl := by rw [cell_block H1.blk]; rfl
 have q2 : w1.cell? ⟨b, 2, none⟩ = some (.int .i64 T.limit) := by rw [cell_block H1.blk]; rfl
 have f1 := free_block H1.blk 1
 have x0 : w1.cell? ⟨B, 0, none⟩ = some (.int .u8 xk) := cell_keep (HBx.out 0) O1 (fun f => f)
 have x1 : w1.cell? ⟨B, 1, none⟩ = some (.int .i64 xa) := cell_keep (HBx.out 1) O1 (fun f => f)
 have x2 : w1.cell? ⟨B, 2, none⟩ = some (.int .i64 xb) := cell_keep (HBx.out 2) O1 (fun f => f)
 have x3 : w1.cell? ⟨B, 3, none⟩ = some (.int .i64 xc) := cell_keep (HBx.out 3) O1 (fun f => f)
 have hgB : (g B).1 = 0 := by rw [← hBB]; exact H.fresh _ (Nat.le_refl _)
 have hlr := H1.l
 obtain ⟨al, cl, hvl, _, _⟩ := own_slice H1.l.own
 rw [hvl] at q1 hlr
 have d2 : decide (T.limit ≤ T.l.length) = false := decide_eq_false (by omega)
 clear hW0 hBB HL
 go_wp2_with fail
 go_quiet (fail)
 go_wp2_with fail
 have hlr0 := hlr.drewN nq
 have hO1' := hO1.drewN nq
 have q1' : (w1.drewN nq).cell? ⟨b, 1, none⟩ = some (.slice al T.l.length cl) := q1
 have f1' : (w1.drewN nq).frozen? ⟨b, 1, none⟩ = false := f1
 have x0' : (w1.drewN nq).cell? ⟨B, 0, none⟩ = some (.int .u8 xk) := x0
 have x1' : (w1.drewN nq).cell? ⟨B, 1, none⟩ = some (.int .i64 xa) := x1
 have x2' : (w1.drewN nq).cell? ⟨B, 2, none⟩ = some (.int .i64 xb) := x2
 have x3' : (w1.drewN nq).cell? ⟨B, 3, none⟩ = some (.int .i64 xc) := x3
 have H1' := H1.only0 ((Only.refl (fun _ => False) w1).drewN nq)
 clear q1 f1 x0 x1 x2 x3 H1 q2 hlr
 generalize hW1 : w1.drewN nq = w2 at *
 have hS5 : ∀ o w5, Only (fun k => g k = (23, 0)) (w2.alloc o).drew w5 → w5.cell? ⟨b, 1, none⟩ = some (.slice al T.l.length cl) ∧ w5.frozen? ⟨b, 1, none⟩ = false ∧ w5.cell? ⟨B, 0, none⟩ = some (.int .u8 xk) ∧ w5.cell? ⟨B, 1, none⟩ = some (.int .i64 xa) ∧ w5.cell? ⟨B, 2, none⟩ = some (.int .i64 xb) ∧ w5.cell? ⟨B, 3, none⟩ = some (.int .i64 xc) := by
  intro o w5 h
  have hx5 : Only (fun k => g k = (23, 0)) w2 w5 := Only.same (((Only.refl _ w2).alloc o).drew) h
  have hb1 : ¬ g b = (23, 0) := by rw [H1'.tb]; simp
  have hb2 : ¬ g B = (23, 0) := by intro e; rw [e] at hgB; simp at hgB
  exact ⟨cell_keep q1' hx5 hb1, free_keep q1' f1' hx5 hb1, cell_keep x0' hx5 hb2, cell_keep x1' hx5 hb2, cell_keep x2' hx5 hb2, cell_keep x3' hx5 hb2⟩
 have HS5 := Lib.hid hS5
 clear hS5
 have hfz : ∀ o, (w2.alloc o).frozen? ⟨b, 1, none⟩ = false := fun o => free_keep q1' f1' ((Only.refl (fun _ => False) w2).alloc o) (fun f => f)
 refine wp_region_last2 (n := 10) (S := fun w' => w'.cell? ⟨b, 1, none⟩ = some (.slice al T.l.length cl) ∧ w'.frozen? ⟨b, 1, none⟩ = false ∧ w'.cell? ⟨B, 0, none⟩ = some (.int .u8 xk) ∧ w'.cell? ⟨B, 1, none⟩ = some (.int .i64 xa) ∧ w'.cell? ⟨B, 2, none⟩ = some (.int .i64 xb) ∧ w'.cell? ⟨B, 3, none⟩ = some (.int .i64 xc)) (by kernel_rfl) rfl (by kernel_rfl) ⟨q1', f1', x0', x1', x2', x3'⟩ (fun hHeld => ?_)
 refine wpAnyH_take (i := 0) (v := ?_) rfl (by kernel_rfl) (by kernel_rfl) (by kernel_rfl) (fun _ _ _ h => h) (Or.inl ⟨by rfl, ?_⟩) (by assumption) ?_
 rotate_left
 ·(intro w hSw; (try dsimp only at hSw); go_simp <;> (try with_reducible rfl))
 try simp only [Act.put, zq1, zq2, zq3, zq4, zq5, zq6]
 refine wpAnyH_take (i := 1) (v := ?_) rfl (by kernel_rfl) (by kernel_rfl) (by kernel_rfl) (fun _ _ _ h => h) (Or.inl ⟨by rfl, ?_⟩) (by assumption) ?_
 rotate_left
 ·(intro w hSw; (try dsimp only at hSw); go_simp <;> (try with_reducible rfl))
 try simp only [Act.put, zq1, zq2, zq3, zq4, zq5, zq6]
 refine wpAnyH_take (i := 2) (v := ?_) rfl (by kernel_rfl) (by kernel_rfl) (by kernel_rfl) (fun _ _ _ h => h) (Or.inl ⟨by rfl, ?_⟩) (by assumption) ?_
 rotate_left
 ·(intro w hSw; (try dsimp only at hSw); go_simp <;> (try with_reducible rfl))
 try simp only [Act.put, zq1, zq2, zq3, zq4, zq5, zq6]
 refine wpAnyH_take (i := 3) (v := ?_) rfl (by kernel_rfl) (by kernel_rfl) (by kernel_rfl) (fun _ _ _ h => h) (Or.inl ⟨by rfl, ?_⟩) (by assumption) ?_
 rotate_left
 ·(intro w hSw; (try dsimp only at hSw); go_simp <;> (try with_reducible rfl))
 try simp only [Act.put, zq1, zq2, zq3, zq4, zq5, zq6]
 refine wpAnyH_take (i := 4) (v := ?_) rfl (by kernel_rfl) (by kernel_rfl) (by kernel_rfl) (fun _ _ _ h => h) (Or.inl ⟨by rfl, ?_⟩) (by assumption) ?_
 rotate_left
 ·(intro w hSw; (try dsimp only at hSw); go_simp <;> (try with_reducible rfl))
 try simp only [Act.put, zq1, zq2, zq3, zq4, zq5, zq6]
 refine wpAnyH_take (i := 5) (v := ?_) rfl (by kernel_rfl) (by kernel_rfl) (by kernel_rfl) (fun _ _ _ h => h) (Or.inl ⟨by rfl, ?_⟩) (by assumption) ?_
 rotate_left
 ·(intro w hSw; (try dsimp only at hSw); go_simp <;> (try with_reducible rfl))
 try simp only [Act.put, zq1, zq2, zq3, zq4, zq5, zq6]
 refine wpAnyH_ready (rs := [6]) (by kernel_rfl) (by simp) ?_
 refine AllReadyH.cons (i := 6) rfl (fun K hK => ?_) ?_
 ·go_simp
  refine hK.out _ _ ?_ (fun hHeld => ?_)
  ·(try dsimp only) <;> (first | (go_keep; done) | exact HS5.out _ _ rr2)
  clear hK K
  try simp only [Act.put, zq1, zq2, zq3, zq4, zq5, zq6]
  refine wpAnyH_ready (rs := [7]) (by kernel_rfl) (by simp) ?_
  refine AllReadyH.cons (i := 7) rfl (fun K hK => ?_) ?_
  ·(refine RowZ.step (us := cellsA (xk, xa, xb, xc)) slAtom (by rfl) (.tmp 35) (.tmp 37) (by rfl) (by rfl) (by rfl) rfl (by intro j hj; match j, hj with | 0, _ => simp [cellsA] | 1, _ => simp [cellsA] | 2, _ => simp [cellsA] | 3, _ => simp [cellsA]) (by simp [cellsA, Value.oneCell']) (by repeat (first | exact hlr0 | apply RowZ.drew | apply RowZ.alloc | apply RowZ.drewN)) (by omega) (by decide) ?_; intro bb cap w5 rr1 rr2)
   refine hK.out _ _ ?_ (fun hHeld => ?_)
   ·(try dsimp only) <;> (first | (go_keep; done) | exact HS5.out _ _ rr2)
   clear hK K
   try simp only [Act.put, zq1, zq2, zq3, zq4, zq5, zq6]
   refine wpAnyH_take (i := 8) (v := ?_) rfl (by kernel_rfl) (by kernel_rfl) (by kernel_rfl) (fun _ _ _ h => h) (Or.inl ⟨by rfl, ?_⟩) (by assumption) ?_
   rotate_left
   ·(intro w hSw; (try dsimp only at hSw); go_simp <;> (try with_reducible rfl))
   try simp only [Act.put, zq1, zq2, zq3, zq4, zq5, zq6]
   refine wpAnyH_take (i := 9) (v := ?_) rfl (by kernel_rfl) (by kernel_rfl) (by kernel_rfl) (fun _ _ _ h => h) (Or.inl ⟨by rfl, ?_⟩) (by assumption) ?_
   rotate_left
   ·(intro w hSw; (try dsimp only at hSw); go_simp <;> (try with_reducible rfl))
   try simp only [Act.put, zq1, zq2, zq3, zq4, zq5, zq6]
   refine wpAnyH_done (by kernel_rfl) ?_ _
   show wpList _ _ _ _ _ _
   obtain ⟨c1, c2, c3, c4, c5, c6⟩ := hHeld
   have hO5 : Only (fun k => g k = (23, 0)) w2 w5 := Only.same (((Only.refl _ w2).alloc _).drew) rr2
   have hlo : w2.heap.size ≤ (w2.alloc (.cells #[.int .u8 xk, .int .i64 xa, .int .i64 xb, .int .i64 xc] 37)).drew.heap.size := by simp
   obtain ⟨b7, m7⟩ := H1'.mid hO5 (.slice (some ⟨bb, 0, none⟩) (T.l.length + 1) cap)
   have hbB : b ≠ B := by intro e; rw [← e, H1'.tb] at hgB; simp at hgB
   have e3 := (World.cell?_setCell_far w5 ⟨b, 1, none⟩ ⟨B, 0, none⟩ (.slice (some ⟨bb, 0, none⟩) (T.l.length + 1) cap) hbB).trans c3
   have e4 := (World.cell?_setCell_far w5 ⟨b, 1, none⟩ ⟨B, 1, none⟩ (.slice (some ⟨bb, 0, none⟩) (T.l.length + 1) cap) hbB).trans c4
   have e5 := (World.cell?_setCell_far w5 ⟨b, 1, none⟩ ⟨B, 2, none⟩ (.slice (some ⟨bb, 0, none⟩) (T.l.length + 1) cap) hbB).trans c5
   have e6 := (World.cell?_setCell_far w5 ⟨b, 1, none⟩ ⟨B, 3, none⟩ (.slice (some ⟨bb, 0, none⟩) (T.l.length + 1) cap) hbB).trans c6
   have p0 : (w5.setCell ⟨b, 1, none⟩ (.slice (some ⟨bb, 0, none⟩) (T.l.length + 1) cap)).cell? ⟨b, 0, none⟩ = some (.map (some V.bm)) := by rw [cell_block b7]; rfl
   have p1 : (w5.setCell ⟨b, 1, none⟩ (.slice (some ⟨bb, 0, none⟩) (T.l.length + 1) cap)).cell? ⟨b, 1, none⟩ = some (.slice (some ⟨bb, 0, none⟩) (T.l.length + 1) cap) := by rw [cell_block b7]; rfl
   have hgrow : ∀ w6, MapIs w6 V.bm (T.l ++ [(xk, xa, xb, xc)]) → Only (fun k => k = V.bm) (w5.setCell ⟨b, 1, none⟩ (.slice (some ⟨bb, 0, none⟩) (T.l.length + 1) cap)).drew w6 → TabTo w g b { T with l := T.l ++ [(xk, xa, xb, xc)] } w6 ∧ w6.cell? ⟨b, 1, none⟩ = some (.slice (some ⟨bb, 0, none⟩) (T.l.length + 1) cap) := fun w6 h1 h2 => ⟨TabTo.after hO1' (H1'.grow HX.out HMem.out hf hO5 hlo rr1 h1 h2), cell_keep p1 (F := fun k => k = V.bm) (Only.same ((Only.refl _ _).drew) h2) (fun e => by have := H1'.tm; rw [← show b = V.bm from e, H1'.tb] at this; simp at this)⟩
   have HGrow := Lib.hid hgrow
   have HOk := Lib.hid H1'.ok
   have hq : (((w5.setCell ⟨b, 1, none⟩ (.slice (some ⟨bb, 0, none⟩) (T.l.length + 1) cap)).drew).heap) = ((w5.setCell ⟨b, 1, none⟩ (.slice (some ⟨bb, 0, none⟩) (T.l.length + 1) cap)).heap) := rfl
   have M7 := Lib.hid m7
   clear hgrow rr1 rr2 hO5 hlo b7 c3 c4 c5 c6 HS5 hlr0 H1' H m7 hq
   go_wp2_with fail
   generalize hw3 : w5.setCell ⟨b, 1, none⟩ (.slice (some ⟨bb, 0, none⟩) (T.l.length + 1) cap) = w3 at *
   refine wp_region_last2 (n := 10) (S := fun w' => w'.cell? ⟨b, 0, none⟩ = some (.map (some V.bm)) ∧ w'.cell? ⟨b, 1, none⟩ = some (.slice (some ⟨bb, 0, none⟩) (T.l.length + 1) cap) ∧ w'.cell? ⟨B, 0, none⟩ = some (.int .u8 xk) ∧ w'.cell? ⟨B, 1, none⟩ = some (.int .i64 xa) ∧ w'.cell? ⟨B, 2, none⟩ = some (.int .i64 xb) ∧ w'.cell? ⟨B, 3, none⟩ = some (.int .i64 xc)) (by kernel_rfl) rfl (by kernel_rfl) ⟨p0, p1, e3, e4, e5, e6⟩ (fun hHeld => ?_)
   refine wpAnyH_take (i := 0) (v := ?_) rfl (by kernel_rfl) (by kernel_rfl) (by kernel_rfl) (fun _ _ _ h => h) (Or.inl ⟨by rfl, ?_⟩) (by assumption) ?_
   rotate_left
   ·(intro w hSw; (try dsimp only at hSw); go_simp <;> (try with_reducible rfl))
   try simp only [Act.put, zq1, zq2, zq3, zq4, zq5, zq6]
   refine wpAnyH_take (i := 1) (v := ?_) rfl (by kernel_rfl) (by kernel_rfl) (by kernel_rfl) (fun _ _ _ h => h) (Or.inl ⟨by rfl, ?_⟩) (by assumption) ?_
   rotate_left
   ·(intro w hSw; (try dsimp only at hSw); go_simp <;> (try with_reducible rfl))
   try simp only [Act.put, zq1, zq2, zq3, zq4, zq5, zq6]
   refine wpAnyH_take (i := 2) (v := ?_) rfl (by kernel_rfl) (by kernel_rfl) (by kernel_rfl) (fun _ _ _ h => h) (Or.inl ⟨by rfl, ?_⟩) (by assumption) ?_
   rotate_left
   ·(intro w hSw; (try dsimp only at hSw); go_simp <;> (try with_reducible rfl))
   try simp only [Act.put, zq1, zq2, zq3, zq4, zq5, zq6]
   refine wpAnyH_take (i := 3) (v := ?_) rfl (by kernel_rfl) (by kernel_rfl) (by kernel_rfl) (fun _ _ _ h => h) (Or.inl ⟨by rfl, ?_⟩) (by assumption) ?_
   rotate_left
   ·(intro w hSw; (try dsimp only at hSw); go_simp <;> (try with_reducible rfl))
   try simp only [Act.put, zq1, zq2, zq3, zq4, zq5, zq6]
   refine wpAnyH_take (i := 4) (v := ?_) rfl (by kernel_rfl) (by kernel_rfl) (by kernel_rfl) (fun _ _ _ h => h) (Or.inl ⟨by rfl, ?_⟩) (by assumption) ?_
   rotate_left
   ·(intro w hSw; (try dsimp only at hSw); go_simp <;> (try with_reducible rfl))
   try simp only [Act.put, zq1, zq2, zq3, zq4, zq5, zq6]
   refine wpAnyH_take (i := 5) (v := ?_) rfl (by kernel_rfl) (by kernel_rfl) (by kernel_rfl) (fun _ _ _ h => h) (Or.inl ⟨by rfl, ?_⟩) (by assumption) ?_
   rotate_left
   ·(intro w hSw; (try dsimp only at hSw); go_simp <;> (try with_reducible rfl))
   try simp only [Act.put, zq1, zq2, zq3, zq4, zq5, zq6]
   refine wpAnyH_take (i := 6) (v := ?_) rfl (by kernel_rfl) (by kernel_rfl) (by kernel_rfl) (fun _ _ _ h => h) (Or.inl ⟨by rfl, ?_⟩) (by assumption) ?_
   rotate_left
   ·(intro w hSw; (try dsimp only at hSw); go_simp <;> (try with_reducible rfl))
   try simp only [Act.put, zq1, zq2, zq3, zq4, zq5, zq6]
   refine wpAnyH_take (i := 7) (v := ?_) rfl (by kernel_rfl) (by kernel_rfl) (by kernel_rfl) (fun _ _ _ h => h) (Or.inl ⟨by rfl, ?_⟩) (by assumption) ?_
   rotate_left
   ·(intro w hSw; (try dsimp only at hSw); go_simp <;> (try with_reducible rfl))
   try simp only [Act.put, zq1, zq2, zq3, zq4, zq5, zq6]
   refine wpAnyH_take (i := 8) (v := ?_) rfl (by kernel_rfl) (by kernel_rfl) (by kernel_rfl) (fun _ _ _ h => h) (Or.inl ⟨by rfl, ?_⟩) (by assumption) ?_
   rotate_left
   ·(intro w hSw; (try dsimp only at hSw); go_simp <;> (try with_reducible rfl))
   try simp only [Act.put, zq1, zq2, zq3, zq4, zq5, zq6]
   refine wpAnyH_take (i := 9) (v := ?_) rfl (by kernel_rfl) (by kernel_rfl) (by kernel_rfl) (fun _ _ _ h => h) (Or.inl ⟨by rfl, ?_⟩) (by assumption) ?_
   rotate_left
   ·(intro w hSw; (try dsimp only at hSw); go_simp <;> (try with_reducible rfl))
   try simp only [Act.put, zq1, zq2, zq3, zq4, zq5, zq6]
   refine wpAnyH_done (by kernel_rfl) ?_ _
   show wpList _ _ _ _ _ _
   obtain ⟨w6, hmu, hm6, ho6⟩ := store_at (w := w3.drew) (bm := V.bm) (l := T.l) (by exact M7.out) HOk.out HX.out HMem.out ((T.l.length : Int) + 1) rfl
   obtain ⟨hfin, z1⟩ := HGrow.out w6 hm6 ho6
   unfold encA at hmu
   simp only at hmu
   clear HGrow M7 hm6 ho6
   go_wp2_with fail
   go_ret
   exact ⟨rfl, hfin⟩
  exact AllReadyH.nil
 exact AllReadyH.nil
theorem Number_any (H : TabAt w g b V T) {x : At} (hx : AtOk x) (r : Int) (hr : (T.num x).2 = r) :
  Calls Try.prog 30 #[.pointer (some ⟨b, 0, none⟩), encA x] w fun e w' => e = .returned (.int .i64 r) ∧ TabTo w g b (T.num x).1 w' := by
 subst hr
 unfold Tab.num
 by_cases h1 : x ∈ T.l
 ·rw [if_pos h1]; exact Number_old H hx h1
 ·rw [if_neg h1]
  by_cases h2 : T.limit ≤ T.l.length
  ·rw [if_pos h2]; exact Number_full H hx h1 h2
  ·rw [if_neg h2]; exact Number_new H hx h1 (by omega)
end
end Go.Proofs.Ytbapkcnfacklaaa

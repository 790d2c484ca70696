/- Prop11 Prop14, in one text. -/
import Derived.Test.YtjedgdamommgeaaGreatPrC
import Derived.Test.YtjedgdamommgeaaGreatPrP
set_option linter.unusedVariables false
namespace Go.Proofs.YtjedgdamommgeaaGreat
open Go.RowKit
open Tr
section
variable {w : World} {g : Tag} {b : Nat} {V : TrV} {T : Trail}
theorem RowZ.cut {w : World} {g : Tag} {t : Nat × Nat} {e : TypeId} {size b n cap : Nat} {xs : List Value} (h : RowZ w g t e size (.slice (some ⟨b, 0, none⟩) n cap) n xs) {m : Nat} (hm : m ≤ n) : RowZ w g t e size (.slice (some ⟨b, 0, none⟩) m cap) m (xs.take (m * size)) := by
 refine ⟨⟨?_, ?_⟩, h.tg⟩
 ·have := Nat.mul_le_mul_right size hm
  rw [List.length_take, h.own.1]; omega
 ·rcases h.own.2 with ⟨h1, _⟩ | ⟨b', cap', cur, h1, h2, h3, h4, h5, h6, h7⟩
  ·simp at h1
  ·simp only [Value.slice.injEq, Option.some.injEq, Addr.mk.injEq] at h1
   obtain ⟨⟨rfl, _⟩, _, rfl⟩ := h1
   have := Nat.mul_le_mul_right size hm
   refine .inr ⟨b, cap, cur, rfl, h2, h3, by omega, h5, h6, ?_⟩
   rw [← h7, List.take_take, Nat.min_eq_left this]
theorem TrAt.sapp (H : TrAt w g b V T) {v' : Value} (news : List Nat) (wA w5 : World) (s : Nat) (o5 : Only (fun q => g q = (40, 0)) wA w5) (hs : wA.heap.size = s)
  (r5 : RowO w5 (Tag.put g s w5.heap.size (40, 0)) (40, 0) 3 v' (T.short.map cN ++ news.map cN)) (oA : Only (fun _ => False) w wA) :
  ∃ g5, TrAt (w5.setCell ⟨b, 7, none⟩ v') g5 b { V with vs := v' } { T with short := T.short ++ news } ∧ Agree w g g5 ∧ Only (Mine g) w (w5.setCell ⟨b, 7, none⟩ v') := by
 subst hs
 have ag : Agree w g (Tag.put g wA.heap.size w5.heap.size (40, 0)) := Agree.put g _ oA.size
 have o25 : Only (fun q => g q = (40, 0)) w w5 := (oA.mono fun _ f => f.elim).same o5
 exact ⟨_, H.setS ag (Fresh.put (w := wA) (40, 0) (H.fresh.more oA.size) o5.size) o25 (by rw [List.map_append]; exact r5), ag, (o25.mono fun q hq => by unfold Mine; rw [hq]; simp).setCell (.inl (by unfold Mine; rw [H.tb]; simp)) _⟩
theorem RowT.news {w : World} {g : Tag} {t : Nat × Nat} {e : TypeId} {ao : Option Addr} {n cap : Nat} {xs : List Value} (h : Row w g t e (.slice ao n cap) xs) : ∀ W, Only (fun _ => False) w W → ∀ ad, ao = some ad → ∀ j u, xs[j]? = some u → W.cell? (ad.add j) = some u := by
 intro W oW ad had j u hu
 subst had
 have hj : j < xs.length := (List.getElem?_eq_some_iff.1 hu).1
 obtain ⟨bb, cc, he, -, -, -, -⟩ := h.pos (by omega)
 simp only [Value.slice.injEq, Option.some.injEq] at he
 obtain ⟨rfl, rfl, rfl⟩ := he
 have h1 := h.cell u hj
 rw [List.getD_eq_getElem?_getD, hu] at h1
 have h2 := cell_keep h1 oW (fun f => f)
 rw [Go.WideShapes.add_plain, Nat.zero_add]; exact h2
theorem prop_Back_stay (H : TrAt w g b V T) (x : Int) (k : Nat) (hx : max x 0 = (k : Int)) (hk : ¬ k < T.levels.length) :
  Calls Tryz.prog 64 #[.pointer (some ⟨b, 0, none⟩), .int .i64 x] w fun e w' => e = .returned (.tuple #[]) ∧ TrTo w g b T w' := by
 have q5 := H.f5
 obtain ⟨aL, cL, hvL, -, -⟩ := own_slice H.L.own
 rw [hvL] at q5
 have dk : decide ((T.levels.length : Int) ≤ (k : Int)) = true := decide_eq_true (by omega)
 have dk2 : decide (T.levels.length ≤ k) = true := decide_eq_true (by omega)
 have dk3 : T.levels.length ≤ k := by omega
 have hfin : ∀ W, Only (fun _ => False) w W → TrTo w g b T W := fun W oW => ⟨g, V, H.only0 oW, Agree.refl _ _, oW.mono fun _ f => f.elim⟩
 have HFin := Lib.hid hfin
 clear hfin H hk hvL
 go_enter Tryz.func64, Tryz.ntmps64
 go_wp2_with fail
 ((try simp only [Exit.inBlock, Exit.then]); refine bodyPost_ret (results_none rfl _ _ _) rfl ?_)
 exact ⟨rfl, HFin.out _ (Only.refl _ _)⟩
theorem back_cells {n f j : Nat} {e : List (Int × Nat × Int)} (hg : Up.Good n (e.map (·.1))) (hj : f + j < e.length) {l : Int} (hl : (e.map (·.1)).getD (f + j) 0 = l) :
  (((atomCells n (e.take f ++ e.drop (f + j))).set ((l.natAbs - 1) * 3) (cI 0)).set ((l.natAbs - 1) * 3 + 1) (cI 0)).set ((l.natAbs - 1) * 3 + 2) (cI 0) = atomCells n (e.take f ++ e.drop (f + (j + 1))) := by
 have hx : e.drop (f + j) = e[f + j] :: e.drop (f + j + 1) := List.drop_eq_getElem_cons hj
 have hl2 : e[f + j].1 = l := by rw [← hl, List.getD_eq_getElem?_getD, List.getElem?_map, List.getElem?_eq_getElem hj]; rfl
 have hm : l ∈ e.map (·.1) := by rw [← hl2]; exact List.mem_map.2 ⟨_, List.getElem_mem hj, rfl⟩
 have hin := hg.lit l hm
 refine atomCells_set (y := 0) (by omega) (fun i hi => ?_) ?_
 ·rw [hx]; exact (atomOf_skip (by omega)).symm
 ·refine atomOf_none fun y hy => ?_
  obtain ⟨i, hi, hne, rfl⟩ : ∃ i, ∃ hi : i < e.length, i ≠ f + j ∧ e[i] = y := by
   rcases List.mem_append.1 hy with h | h
   ·obtain ⟨i, hi, rfl⟩ := List.getElem_of_mem h
    simp at hi
    exact ⟨i, by omega, by omega, by simp⟩
   ·obtain ⟨i, hi, rfl⟩ := List.getElem_of_mem h
    simp at hi
    exact ⟨f + (j + 1) + i, by omega, by omega, by simp⟩
  intro he
  have h1 := hg.nod
  have h2 := List.pairwise_iff_getElem.1 h1
  have e1 : ((e.map (·.1)).map Int.natAbs)[i]'(by simpa using hi) = l.natAbs := by simp only [List.getElem_map]; omega
  have e2 : ((e.map (·.1)).map Int.natAbs)[f + j]'(by simpa using hj) = l.natAbs := by simp only [List.getElem_map, hl2]
  rcases Nat.lt_or_gt_of_ne hne with c | c
  ·exact h2 i (f + j) (by simpa using hi) (by simpa using hj) c (e1.trans e2.symm)
  ·exact h2 (f + j) i (by simpa using hj) (by simpa using hi) c (e2.trans e1.symm)
theorem TrAt.cutL (H : TrAt w g b V T) {w6 : World} {f k bl cl bL cL : Nat} (hvl : V.vl = .slice (some ⟨bl, 0, none⟩) T.ents.length cl) (hvL : V.vL = .slice (some ⟨bL, 0, none⟩) T.levels.length cL) (hf : f ≤ T.ents.length) (hk : k ≤ T.levels.length)
  (hb : w6.heap[b]? = some (.cells #[V.va, V.vc, V.vg, V.vw, .slice (some ⟨bl, 0, none⟩) f cl, .slice (some ⟨bL, 0, none⟩) k cL, cN T.next, V.vs, V.vk] 100 (0, 0)))
  (o6 : Only (fun q => g q = (32, 0) ∨ g q = (31, 0)) w w6) (ha : RowZ w6 g (32, 0) 135 3 V.va T.n (atomCells T.n (T.ents.take f))) :
  TrAt w6 g b { V with vl := .slice (some ⟨bl, 0, none⟩) f cl, vL := .slice (some ⟨bL, 0, none⟩) k cL } { T with ents := T.ents.take f, levels := T.levels.take k } := by
 have hkk : ∀ (t : Nat × Nat), (¬ (t = (32, 0) ∨ t = (31, 0))) → ∀ k, g k = t → ¬ (g k = (32, 0) ∨ g k = (31, 0)) := fun t ht k hk => by rw [hk]; exact ht
 have hl := H.l.only o6 (hkk _ (by simp))
 have hL := H.L.only o6 (hkk _ (by simp))
 rw [hvl] at hl
 rw [hvL] at hL
 have hl2 := hl.cut hf
 have hL2 := hL.cut hk
 rw [← levCells_take] at hL2
 refine ⟨hb, H.tb, ha, H.c.only o6 (hkk _ (by simp)), H.ul, fun i hi => (H.ci i hi).only o6 (hkk _ (by simp)), H.gn.only o6 (hkk _ (by simp)), H.wr.only o6 (hkk _ (by simp)), H.wl, fun p hp => (H.wi p hp).only o6 (hkk _ (by simp)), ?_, ?_, H.s.only o6 (hkk _ (by simp)), H.k.only o6 (hkk _ (by simp)), H.fresh.more o6.size⟩
 ·have e : ((T.ents.take f).map (·.1)).map cI = (T.lits.map cI).take f := by simp [Trail.lits, List.map_take]
  show Row _ _ _ _ _ (((T.ents.take f).map (·.1)).map cI)
  rw [e]; exact hl2
 ·show RowZ _ _ _ _ _ _ (T.levels.take k).length _
  rw [List.length_take, Nat.min_eq_left hk]; exact hL2
set_option maxRecDepth 100000 in
set_option maxHeartbeats 3200000 in
theorem prop_Back_go (H : TrAt w g b V T) (o : Ok T) (hsw : T.short.length + T.weak.length ≤ 1099511627776) (x : Int) (k : Nat) (hx : max x 0 = (k : Int)) (hk : k < T.levels.length) :
  Calls Tryz.prog 64 #[.pointer (some ⟨b, 0, none⟩), .int .i64 x] w fun e w' => e = .returned (.tuple #[]) ∧ TrTo w g b (T.backTo k) w' := by
 obtain ⟨f, nx, hfn⟩ : ∃ f nx, T.levels.getD k (0, 0) = (f, nx) := ⟨_, _, rfl⟩
 have hkm : (f, nx) ∈ T.levels := by rw [← hfn, List.getD_eq_getElem?_getD, List.getElem?_eq_getElem hk]; exact List.getElem_mem hk
 have hf : f < T.ents.length := o.lin _ hkm
 have q5 := H.f5
 obtain ⟨bL, cL, hvL, hc1, hc2⟩ := own_some H.L.own (by omega)
 have hrL := H.L
 rw [hvL] at q5 hrL
 have eL0 : (levCells T.levels)[k * 2]? = some (cN f) := by have := levCells_get T.levels k 0 hk (by decide); rw [hfn] at this; exact this
 have eL1 : (levCells T.levels)[k * 2 + 1]? = some (cN nx) := by have := levCells_get T.levels k 1 hk (by decide); rw [hfn] at this; exact this
 have hll : (levCells T.levels).length = T.levels.length * 2 := hrL.own.1
 have k0 := (hrL.own.cellAt (k * 2) (by omega)).trans eL0
 have k1 := (hrL.own.cellAt (k * 2 + 1) (by omega)).trans eL1
 have dk : decide ((T.levels.length : Int) ≤ (k : Int)) = false := decide_eq_false (by omega)
 have dk2 : decide (T.levels.length ≤ k) = false := decide_eq_false (by omega)
 have hfr := H.fresh
 obtain ⟨ga, ca, hva, hca1, hca2⟩ := own_some H.a.own (by have := o.good.len; rw [lits_len] at this; omega)
 obtain ⟨bl, cl, hvl, hcl1, hcl2, htl, -⟩ := H.l.pos (by rw [List.length_map, lits_len]; omega)
 rw [List.length_map, lits_len] at hvl hcl1
 have hAt : ∀ w1, w.alloc (.cells #[cN f, cN nx] 133) = w1 → TrAt w1 g b V T ∧ w1.cell? ⟨w.heap.size, 0, none⟩ = some (cN f) ∧ w1.cell? ⟨w.heap.size, 1, none⟩ = some (cN nx) := by
  rintro w1 rfl
  refine ⟨H.alloc _, ?_, ?_⟩ <;> (rw [cell_block (heap_alloc_new w _)]; rfl)
 have hgs : (g w.heap.size).1 = 0 := hfr _ (Nat.le_refl _)
 have hon : ∀ w1, w.alloc (.cells #[cN f, cN nx] 133) = w1 → Only (fun _ => False) w w1 := fun w1 h => by rw [← h]; exact (Only.refl _ _).alloc _
 go_enter Tryz.func64, Tryz.ntmps64
 go_wp2_with fail
 obtain ⟨w1, hw1⟩ : ∃ w1, w.alloc (.cells #[cN f, cN nx] 133) = w1 := ⟨_, rfl⟩
 rw [hw1]
 obtain ⟨H1, l0, l1⟩ := hAt w1 hw1
 have O1 := hon w1 hw1
 clear hw1 hAt hon q5 k0 k1 hrL
 generalize w.heap.size = B at *
 have q4 := H1.f4
 rw [hvl] at q4
 have hra := H1.a
 rw [hva] at hra
 have hst : ∀ n, RowZ (w1.drewN n) g (32, 0) 135 3 (.slice (some ⟨ga, 0, none⟩) T.n ca) T.n (atomCells T.n (T.ents.take f ++ T.ents.drop (f + 0))) := fun n => by
  rw [Nat.add_zero, List.take_append_drop]; exact hra.drewN n
 have HSt := Lib.hid hst
 obtain ⟨m, hm⟩ : ∃ m, T.ents.length - f = m := ⟨_, rfl⟩
 have HM := Lib.hid hm
 go_quiet (fail)
 go_wp2_with fail
 go_loopw [35] (fun v wr => ∃ j : Nat, v = .int .i64 j ∧ j ≤ m ∧ RowZ wr g (32, 0) 135 3 (.slice (some ⟨ga, 0, none⟩) T.n ca) T.n (atomCells T.n (T.ents.take f ++ T.ents.drop (f + j))) ∧ Only (fun q => g q = (32, 0)) w1 wr) (fun v _ => m - (intOf v).toNat)
 case atStart => exact ⟨0, rfl, Nat.zero_le _, HSt.out _, (Only.refl _ _).drewN _⟩
 case round =>
  obtain ⟨j, rfl, hj, hR, hO⟩ := hrel
  have HR := Lib.hid hR
  have HO := Lib.hid hO
  have hb1 : g b ≠ (32, 0) := by rw [H1.tb]; simp
  by_cases cj : j < m
  ·obtain ⟨l, hl⟩ : ∃ l, T.lits.getD (f + j) 0 = l := ⟨_, rfl⟩
   have hm1 := HM.out
   have hlc : wr.cell? ⟨bl, f + j, none⟩ = some (cI l) := by
    have h1 := H1.l
    rw [hvl] at h1
    have h2 := (h1.only hO (fun q hq hF => by rw [hq] at hF; simp at hF)).cellM 0 (i := f + j) (by rw [lits_len]; omega)
    rw [hl] at h2; exact h2
   have hll2 : l ≠ 0 ∧ l.natAbs ≤ T.n := o.good.lit l (by rw [← hl]; exact getD_mem' 0 (by rw [lits_len]; omega))
   have hstep := back_cells (n := T.n) (f := f) (j := j) (e := T.ents) o.good (by omega) hl
   obtain ⟨a, ha⟩ : ∃ a : Nat, l.natAbs - 1 = a := ⟨_, rfl⟩
   rw [ha] at hstep
   have hq0 : wr.cell? ⟨b, 0, none⟩ = some (.slice (some ⟨ga, 0, none⟩) T.n ca) := by have := cell_keep H1.f0 hO hb1; rw [hva] at this; exact this
   have hn := o.n
   have ewl : IntKind.i64.wrap (-l) = -l := IntWalk.i64_in _ (by omega)
   have hmx : max l (-l) = (a : Int) + 1 := by omega
   have ewm : IntKind.i64.wrap ((a : Int) + 1 - 1) = a := by rw [IntWalk.i64_in _ (by omega)]; omega
   have ban : a < T.n := by omega
   have e0 : _ = some _ := atomCells_get (T.ents.take f ++ T.ents.drop (f + j)) (n := T.n) (i := a) (j := 0) ban (by decide)
   have e1 : _ = some _ := atomCells_get (T.ents.take f ++ T.ents.drop (f + j)) (n := T.n) (i := a) (j := 1) ban (by decide)
   have e2 : _ = some _ := atomCells_get (T.ents.take f ++ T.ents.drop (f + j)) (n := T.n) (i := a) (j := 2) ban (by decide)
   have hcl := atomCells_len T.n (T.ents.take f ++ T.ents.drop (f + j))
   have k0 := (hR.own.cellAt (a * 3) (by omega)).trans e0
   have k1 := (hR.own.cellAt (a * 3 + 1) (by omega)).trans e1
   have k2 := (hR.own.cellAt (a * 3 + 2) (by omega)).trans e2
   have f0 := hR.own.frozenAt (a * 3)
   have f1 := hR.own.frozenAt (a * 3 + 1)
   have f2 := hR.own.frozenAt (a * 3 + 2)
   have hta : g ga = (32, 0) := hR.tg ga rfl
   have hrz := (((hR.store (a * 3) (cI 0)).store (a * 3 + 1) (cI 0)).store (a * 3 + 2) (cI 0))
   rw [hstep] at hrz
   have hO2 := ((hO.setCell (p := ⟨ga, a * 3, none⟩) (.inl hta) (cI 0)).setCell (p := ⟨ga, a * 3 + 1, none⟩) (.inl hta) (cI 0)).setCell (p := ⟨ga, a * 3 + 2, none⟩) (.inl hta) (cI 0)
   have HRZ := Lib.hid hrz
   have HO2 := Lib.hid hO2
   have ewj : IntKind.i64.wrap ((j : Int) + 1) = ((j + 1 : Nat) : Int) := by rw [IntWalk.i64_in _ (by have := o.good.len; rw [lits_len] at this; omega)]; rfl
   clear e0 e1 e2 hrz hO2 hR hO hstep hcl
   generalize (cell3 (atomOf (T.ents.take f ++ T.ents.drop (f + j)) (a + 1))) = cc at *
   go_wp2_with fail
   go_roundw
   case rel => exact ⟨j + 1, rfl, by omega, HRZ.out, HO2.out⟩
   case measure => (simp [intOf]; omega)
  ·have hjm : j = m := by omega
   subst hjm
   have hm1 := HM.out
   have hR2 : RowZ wr g (32, 0) 135 3 (.slice (some ⟨ga, 0, none⟩) T.n ca) T.n (atomCells T.n (T.ents.take f)) := by
    rw [List.drop_of_length_le (by omega), List.append_nil] at hR; exact hR
   have p4 := cell_keep H1.f4 hO hb1
   have p5 := cell_keep H1.f5 hO hb1
   have g4 := free_keep H1.f4 (H1.free 4) hO hb1
   have g5 := free_keep H1.f5 (H1.free 5) hO hb1
   have p0 := cell_keep l0 hO (fun h => by rw [h] at hgs; simp at hgs)
   have p1 := cell_keep l1 hO (fun h => by rw [h] at hgs; simp at hgs)
   rw [hvl] at p4
   rw [hvL] at p5
   have hH6 : ∀ W, Only (fun _ => False) wr W → TrAt ((W.setCell ⟨b, 4, none⟩ (.slice (some ⟨bl, 0, none⟩) f cl)).setCell ⟨b, 5, none⟩ (.slice (some ⟨bL, 0, none⟩) k cL)) g b { V with vl := .slice (some ⟨bl, 0, none⟩) f cl, vL := .slice (some ⟨bL, 0, none⟩) k cL } { T with ents := T.ents.take f, levels := T.levels.take k } ∧ Only (fun q => g q = (32, 0) ∨ g q = (31, 0)) w1 ((W.setCell ⟨b, 4, none⟩ (.slice (some ⟨bl, 0, none⟩) f cl)).setCell ⟨b, 5, none⟩ (.slice (some ⟨bL, 0, none⟩) k cL)) := by
    intro W oW
    have oA : Only (fun q => g q = (32, 0) ∨ g q = (31, 0)) w1 W := (hO.mono fun q hq => .inl hq).same (oW.mono fun _ f => f.elim)
    have oB := (oA.setCell (p := ⟨b, 4, none⟩) (.inl (.inr H1.tb)) (.slice (some ⟨bl, 0, none⟩) f cl)).setCell (p := ⟨b, 5, none⟩) (.inl (.inr H1.tb)) (.slice (some ⟨bL, 0, none⟩) k cL)
    have hblk := only_block (only_block H1.blk hO hb1) oW (fun f => f)
    refine ⟨H1.cutL hvl hvL (by omega) (by omega) ?_ oB ?_, oB⟩
    ·rw [set_block (set_block hblk _ _)]; rfl
    ·rw [hva]
     have h1 := hR2.only oW (fun _ _ f => f)
     exact (h1.far (by rw [H1.tb]; simp) _).far (by rw [H1.tb]; simp) _
   have HH6 := Lib.hid hH6
   clear hH6
   have z1 : f ≤ cl := by omega
   have z2 : k ≤ cL := by omega
   go_wp2_with fail
   refine wp_region_G (n := 21) (E := fun i => i == 17 || i == 20) (S := fun w' => w'.cell? ⟨b, 4, none⟩ = some (.slice (some ⟨bl, 0, none⟩) T.ents.length cl) ∧ w'.cell? ⟨b, 5, none⟩ = some (.slice (some ⟨bL, 0, none⟩) T.levels.length cL) ∧ w'.cell? ⟨B, 0, none⟩ = some (cN f) ∧ w'.frozen? ⟨b, 4, none⟩ = false ∧ w'.frozen? ⟨b, 5, none⟩ = false) (by kernel_rfl) rfl (by exact ⟨p4, p5, p0, g4, g5⟩) (fun hHeld => ?_)
   refine tqW (i := 0) (v := ?_) rfl (.inr (by assumption)) ?_ ?_
   rotate_left
   ·(intro w; go_simp <;> (try with_reducible rfl))
   try simp only [Act.put, zq1, zq3, zq4, zq5, zq6]
   refine tqW (i := 1) (v := ?_) rfl (.inr (by assumption)) ?_ ?_
   rotate_left
   ·(intro w; go_simp <;> (try with_reducible rfl))
   try simp only [Act.put, zq1, zq2, zq3, zq4, zq5, zq6]
   refine tqW (i := 2) (v := ?_) rfl (.inr (by assumption)) ?_ ?_
   rotate_left
   ·(intro w; go_simp <;> (try with_reducible rfl))
   try simp only [Act.put, zq1, zq2, zq3, zq4, zq5, zq6]
   refine tqW (i := 3) (v := ?_) rfl (.inr (by assumption)) ?_ ?_
   rotate_left
   ·(intro w; go_simp <;> (try with_reducible rfl))
   try simp only [Act.put, zq1, zq2, zq3, zq4, zq5, zq6]
   refine tqW (i := 4) (v := ?_) rfl (.inr (by assumption)) ?_ ?_
   rotate_left
   ·(intro w; go_simp <;> (try with_reducible rfl))
   try simp only [Act.put, zq1, zq2, zq3, zq4, zq5, zq6]
   refine tqK (i := 5) (v := ?_) rfl ?_ ?_
   rotate_left
   ·(intro w hSw; (try dsimp only at hSw); go_simp <;> (try with_reducible rfl))
   try simp only [Act.put, zq1, zq2, zq3, zq4, zq5, zq6]
   refine tqW (i := 6) (v := ?_) rfl (.inr (by assumption)) ?_ ?_
   rotate_left
   ·(intro w; go_simp <;> (try with_reducible rfl))
   try simp only [Act.put, zq1, zq2, zq3, zq4, zq5, zq6]
   refine tqK (i := 7) (v := ?_) rfl ?_ ?_
   rotate_left
   ·(intro w hSw; (try dsimp only at hSw); go_simp <;> (try with_reducible rfl))
   try simp only [Act.put, zq1, zq2, zq3, zq4, zq5, zq6]
   refine tqW (i := 8) (v := ?_) rfl (.inr (by assumption)) ?_ ?_
   rotate_left
   ·(intro w; go_simp <;> (try with_reducible rfl))
   try simp only [Act.put, zq1, zq2, zq3, zq4, zq5, zq6]
   refine tqW (i := 9) (v := ?_) rfl (.inr (by assumption)) ?_ ?_
   rotate_left
   ·(intro w; go_simp <;> (try with_reducible rfl))
   try simp only [Act.put, zq1, zq2, zq3, zq4, zq5, zq6]
   refine tqW (i := 10) (v := ?_) rfl (.inr (by assumption)) ?_ ?_
   rotate_left
   ·(intro w; go_simp <;> (try with_reducible rfl))
   try simp only [Act.put, zq1, zq2, zq3, zq4, zq5, zq6]
   refine tqW (i := 11) (v := ?_) rfl (.inr (by assumption)) ?_ ?_
   rotate_left
   ·(intro w; go_simp <;> (try with_reducible rfl))
   try simp only [Act.put, zq1, zq2, zq3, zq4, zq5, zq6]
   refine tqK (i := 12) (v := ?_) rfl ?_ ?_
   rotate_left
   ·(intro w hSw; (try dsimp only at hSw); go_simp <;> (try with_reducible rfl))
   try simp only [Act.put, zq1, zq2, zq3, zq4, zq5, zq6]
   refine tqW (i := 13) (v := ?_) rfl (.inr (by assumption)) ?_ ?_
   rotate_left
   ·(intro w; go_simp <;> (try with_reducible rfl))
   try simp only [Act.put, zq1, zq2, zq3, zq4, zq5, zq6]
   refine tqW (i := 14) (v := ?_) rfl (.inr (by assumption)) ?_ ?_
   rotate_left
   ·(intro w; go_simp <;> (try with_reducible rfl))
   try simp only [Act.put, zq1, zq2, zq3, zq4, zq5, zq6]
   refine tqW (i := 15) (v := ?_) rfl (.inr (by assumption)) ?_ ?_
   rotate_left
   ·(intro w; go_simp <;> (try with_reducible rfl))
   try simp only [Act.put, zq1, zq2, zq3, zq4, zq5, zq6]
   refine tqW (i := 16) (v := ?_) rfl (.inr (by assumption)) ?_ ?_
   rotate_left
   ·(intro w; go_simp <;> (try with_reducible rfl))
   try simp only [Act.put, zq1, zq2, zq3, zq4, zq5, zq6]
   refine wpAnyG_ready (rs := [17]) (by kernel_rfl) (by simp) ?_
   refine AllReadyG.late (i := 17) rfl (by kernel_rfl) (fun K hK => ?_) ?_
   ·go_simp
    refine hK.out _ _ ?_
    clear hK K
    try simp only [Act.put, zq1, zq2, zq3, zq4, zq5, zq6]
    refine tqW (i := 18) (v := ?_) rfl (.inl (by kernel_rfl)) ?_ ?_
    rotate_left
    ·(intro w; go_simp <;> (try with_reducible rfl))
    try simp only [Act.put, zq1, zq2, zq3, zq4, zq5, zq6]
    refine tqW (i := 19) (v := ?_) rfl (.inl (by kernel_rfl)) ?_ ?_
    rotate_left
    ·(intro w; go_simp <;> (try with_reducible rfl))
    try simp only [Act.put, zq1, zq2, zq3, zq4, zq5, zq6]
    refine wpAnyG_ready (rs := [20]) (by kernel_rfl) (by simp) ?_
    refine AllReadyG.late (i := 20) rfl (by kernel_rfl) (fun K hK => ?_) ?_
    ·go_simp
     refine hK.out _ _ ?_
     clear hK K
     try simp only [Act.put, zq1, zq2, zq3, zq4, zq5, zq6]
     refine wpAnyG_done (by kernel_rfl) ?_ _
     obtain ⟨H6, O6⟩ := HH6.out wr (Only.refl _ _)
     clear HH6 hHeld p4 p5 g4 g5 p0
     generalize ((wr.setCell ⟨b, 4, none⟩ (.slice (some ⟨bl, 0, none⟩) f cl)).setCell ⟨b, 5, none⟩ (.slice (some ⟨bL, 0, none⟩) k cL)) = w6 at *
     replace H6 := H6.drew
     replace O6 := O6.drew
     generalize w6.drew = w6 at *
     have p16 := cell_keep l1 O6 (fun h => by rcases h with h | h <;> (rw [h] at hgs; simp at hgs))
     have p66 := H6.f6
     have f66 := H6.free 6
     obtain ⟨nm, hnm⟩ : ∃ nm : Nat, min (T.next : Int) (nx : Int) = (nm : Int) := ⟨min T.next nx, by omega⟩
     go_wp2_with fail
     refine wp_region_G (n := 11) (E := fun i => i == 10) (S := fun w' => w'.cell? ⟨b, 6, none⟩ = some (cN T.next) ∧ w'.cell? ⟨B, 1, none⟩ = some (cN nx) ∧ w'.frozen? ⟨b, 6, none⟩ = false) (by kernel_rfl) rfl (by exact ⟨p66, p16, f66⟩) (fun hHeld => ?_)
     refine tqW (i := 0) (v := ?_) rfl (.inr (by assumption)) ?_ ?_
     rotate_left
     ·(intro w; go_simp <;> (try with_reducible rfl))
     try simp only [Act.put, zq1, zq3, zq4, zq5, zq6]
     refine tqW (i := 1) (v := ?_) rfl (.inr (by assumption)) ?_ ?_
     rotate_left
     ·(intro w; go_simp <;> (try with_reducible rfl))
     try simp only [Act.put, zq1, zq2, zq3, zq4, zq5, zq6]
     refine tqW (i := 2) (v := ?_) rfl (.inr (by assumption)) ?_ ?_
     rotate_left
     ·(intro w; go_simp <;> (try with_reducible rfl))
     try simp only [Act.put, zq1, zq2, zq3, zq4, zq5, zq6]
     refine tqW (i := 3) (v := ?_) rfl (.inr (by assumption)) ?_ ?_
     rotate_left
     ·(intro w; go_simp <;> (try with_reducible rfl))
     try simp only [Act.put, zq1, zq2, zq3, zq4, zq5, zq6]
     refine tqK (i := 4) (v := ?_) rfl ?_ ?_
     rotate_left
     ·(intro w hSw; (try dsimp only at hSw); go_simp <;> (try with_reducible rfl))
     try simp only [Act.put, zq1, zq2, zq3, zq4, zq5, zq6]
     refine tqW (i := 5) (v := ?_) rfl (.inr (by assumption)) ?_ ?_
     rotate_left
     ·(intro w; go_simp <;> (try with_reducible rfl))
     try simp only [Act.put, zq1, zq2, zq3, zq4, zq5, zq6]
     refine tqK (i := 6) (v := ?_) rfl ?_ ?_
     rotate_left
     ·(intro w hSw; (try dsimp only at hSw); go_simp <;> (try with_reducible rfl))
     try simp only [Act.put, zq1, zq2, zq3, zq4, zq5, zq6]
     refine tqW (i := 7) (v := ?_) rfl (.inr (by assumption)) ?_ ?_
     rotate_left
     ·(intro w; go_simp <;> (try with_reducible rfl))
     try simp only [Act.put, zq1, zq2, zq3, zq4, zq5, zq6]
     refine tqW (i := 8) (v := ?_) rfl (.inr (by assumption)) ?_ ?_
     rotate_left
     ·(intro w; go_simp <;> (try with_reducible rfl))
     try simp only [Act.put, zq1, zq2, zq3, zq4, zq5, zq6]
     refine tqW (i := 9) (v := ?_) rfl (.inr (by assumption)) ?_ ?_
     rotate_left
     ·(intro w; go_simp <;> (try with_reducible rfl))
     try simp only [Act.put, zq1, zq2, zq3, zq4, zq5, zq6]
     refine wpAnyG_ready (rs := [10]) (by kernel_rfl) (by simp) ?_
     refine AllReadyG.late (i := 10) rfl (by kernel_rfl) (fun K hK => ?_) ?_
     ·go_simp
      refine hK.out _ _ ?_
      clear hK K
      try simp only [Act.put, zq1, zq2, zq3, zq4, zq5, zq6]
      refine wpAnyG_done (by kernel_rfl) ?_ _
      have H7 := H6.setN (m := nm) (Agree.refl _ _) H6.fresh (Only.refl _ _)
      have O7 := O6.setCell (p := ⟨b, 6, none⟩) (.inl (.inr H1.tb)) (cN nm)
      clear H6 O6 hHeld p66 f66
      generalize w6.setCell ⟨b, 6, none⟩ (cN nm) = w7 at *
      have q7 := H7.f7
      have q8 := H7.f8
      have f7 := H7.free 7
      have HRS := Lib.hid H7.s
      obtain ⟨as_, cs, hvs, -, -⟩ := H7.s.shape
      simp only [List.length_map] at hvs
      obtain ⟨ak, ck, hvk, -, -⟩ := H7.k.shape
      simp only [List.length_map] at hvk
      have hrk := H7.k
      rw [show ({ V with vl := Value.slice (some ⟨bl, 0, none⟩) f cl, vL := Value.slice (some ⟨bL, 0, none⟩) k cL } : TrV).vs = V.vs from rfl] at hvs HRS q7
      rw [show ({ V with vl := Value.slice (some ⟨bl, 0, none⟩) f cl, vL := Value.slice (some ⟨bL, 0, none⟩) k cL } : TrV).vk = V.vk from rfl] at hvk hrk q8
      rw [hvs] at q7 HRS
      rw [hvk] at q8 hrk
      have HNews := Lib.hid (RowT.news hrk)
      have hnone : ak = none → T.weak.length = 0 ∧ ck = 0 := fun e => by rw [e] at hrk; exact own_nil hrk.own
      have HNone := Lib.hid hnone
      have hS5 : ∀ w', Only (fun q => g q = (40, 0)) w7 w' → w'.cell? ⟨b, 7, none⟩ = some (.slice as_ T.short.length cs) ∧ w'.cell? ⟨b, 8, none⟩ = some (.slice ak T.weak.length ck) ∧ w'.frozen? ⟨b, 7, none⟩ = false := fun w' h =>
       ⟨cell_keep q7 h (by rw [H7.tb]; simp), cell_keep q8 h (by rw [H7.tb]; simp), free_keep q7 f7 h (by rw [H7.tb]; simp)⟩
      have hS0 := hS5 w7.drew ((Only.refl _ _).drew)
      have HS5 := Lib.hid hS5
      have hfin : ∀ wA w5 v' s, Only (fun q => g q = (40, 0)) wA w5 → wA.heap.size = s → RowO w5 (Tag.put g s w5.heap.size (40, 0)) (40, 0) 3 v' (T.short.map cN ++ T.weak.map cN) → Only (fun _ => False) w7 wA →
        (∃ u, (w5.setCell ⟨b, 7, none⟩ v').cell? ⟨b, 8, none⟩ = some u) ∧ (w5.setCell ⟨b, 7, none⟩ v').frozen? ⟨b, 8, none⟩ = false ∧ TrTo w g b (T.backTo k) ((w5.setCell ⟨b, 7, none⟩ v').setCell ⟨b, 8, none⟩ nilS) := by
       intro wA w5 v' s o5 hs r5 oA
       obtain ⟨g5, H8, A8, O8⟩ := H7.sapp (v' := v') T.weak wA w5 s o5 hs r5 oA
       refine ⟨⟨_, H8.f8⟩, H8.free 8, ?_⟩
       have hb : T.backTo k = { ({ T with ents := T.ents.take f, levels := T.levels.take k, next := nm, short := T.short ++ T.weak } : Trail) with weak := [] } := by
        unfold Trail.backTo
        rw [hfn]
        have : min T.next nx = nm := by omega
        rw [this]
       rw [hb]
       have H9 := H8.setK (ss := []) (v := nilS) (Agree.refl _ _) H8.fresh (Only.refl _ _) (Row.nil _ _ _ _)
       refine ⟨g5, _, H9, (Agree.refl w g).trans A8 (by have := O1.size; have := O7.size; omega), ?_⟩
       have oA1 : Only (Mine g) w w7 := (O1.mono fun _ f => f.elim).same (O7.mono fun q hq => by unfold Mine; rcases hq with h | h <;> rw [h] <;> simp)
       exact (oA1.same O8).setCell (.inl (by unfold Mine; rw [H1.tb]; simp)) _
      have HFin := Lib.hid hfin
      clear hS5 hfin hrk hnone q7 q8 f7 H7 O7
      go_wp2_with fail
      refine wp_region_G (n := 13) (E := fun i => i == 12) (S := fun w' => w'.cell? ⟨b, 7, none⟩ = some (.slice as_ T.short.length cs) ∧ w'.cell? ⟨b, 8, none⟩ = some (.slice ak T.weak.length ck) ∧ w'.frozen? ⟨b, 7, none⟩ = false) (by kernel_rfl) rfl hS0 (fun hHeld => ?_)
      refine tqW (i := 0) (v := ?_) rfl (.inr (by assumption)) ?_ ?_
      rotate_left
      ·(intro w; go_simp <;> (try with_reducible rfl))
      try simp only [Act.put, zq1, zq3, zq4, zq5, zq6]
      refine tqW (i := 1) (v := ?_) rfl (.inr (by assumption)) ?_ ?_
      rotate_left
      ·(intro w; go_simp <;> (try with_reducible rfl))
      try simp only [Act.put, zq1, zq2, zq3, zq4, zq5, zq6]
      refine tqW (i := 2) (v := ?_) rfl (.inr (by assumption)) ?_ ?_
      rotate_left
      ·(intro w; go_simp <;> (try with_reducible rfl))
      try simp only [Act.put, zq1, zq2, zq3, zq4, zq5, zq6]
      refine tqW (i := 3) (v := ?_) rfl (.inr (by assumption)) ?_ ?_
      rotate_left
      ·(intro w; go_simp <;> (try with_reducible rfl))
      try simp only [Act.put, zq1, zq2, zq3, zq4, zq5, zq6]
      refine tqK (i := 4) (v := ?_) rfl ?_ ?_
      rotate_left
      ·(intro w hSw; (try dsimp only at hSw); go_simp <;> (try with_reducible rfl))
      try simp only [Act.put, zq1, zq2, zq3, zq4, zq5, zq6]
      refine tqW (i := 5) (v := ?_) rfl (.inr (by assumption)) ?_ ?_
      rotate_left
      ·(intro w; go_simp <;> (try with_reducible rfl))
      try simp only [Act.put, zq1, zq2, zq3, zq4, zq5, zq6]
      refine tqW (i := 6) (v := ?_) rfl (.inr (by assumption)) ?_ ?_
      rotate_left
      ·(intro w; go_simp <;> (try with_reducible rfl))
      try simp only [Act.put, zq1, zq2, zq3, zq4, zq5, zq6]
      refine tqW (i := 7) (v := ?_) rfl (.inr (by assumption)) ?_ ?_
      rotate_left
      ·(intro w; go_simp <;> (try with_reducible rfl))
      try simp only [Act.put, zq1, zq2, zq3, zq4, zq5, zq6]
      refine tqK (i := 8) (v := ?_) rfl ?_ ?_
      rotate_left
      ·(intro w hSw; (try dsimp only at hSw); go_simp <;> (try with_reducible rfl))
      try simp only [Act.put, zq1, zq2, zq3, zq4, zq5, zq6]
      refine wpAnyG_ready (rs := [9]) (by kernel_rfl) (by simp) ?_
      refine AllReadyG.cons (i := 9) rfl (fun K hK => ?_) ?_
      ·(refine RowO.step (news := T.weak.map cN) slInt (by rfl) (.tmp 84) (.tmp 88) (by rfl) (by rfl) (by rfl) (by simp) (by exact HNone.out) (by exact HNews.out _ (by repeat (first | exact Only.refl _ _ | apply Only.drew | apply Only.alloc | apply Only.drewN))) (by intro u hu; obtain ⟨q, -, rfl⟩ := List.mem_map.1 hu; rfl) (by repeat (first | exact HRS.out | apply RowO.drew | apply RowO.alloc | apply RowO.drewN)) (by simp only [List.length_map]; omega) (by decide) ?_; intro ao5 c5 w5 rr1 rr2; simp only [List.length_map] at rr1 ⊢)
       refine hK.out _ _ ?_ (fun hHeld => ?_)
       ·(try dsimp only) <;> (exact HS5.out _ (Only.same (by repeat (first | exact Only.refl _ _ | apply Only.drew | apply Only.alloc | apply Only.drewN)) rr2))
       clear hK K
       try simp only [Act.put, zq1, zq2, zq3, zq4, zq5, zq6]
       refine tqW (i := 10) (v := ?_) rfl (.inr (by assumption)) ?_ ?_
       rotate_left
       ·(intro w; go_simp <;> (try with_reducible rfl))
       try simp only [Act.put, zq1, zq2, zq3, zq4, zq5, zq6]
       refine tqW (i := 11) (v := ?_) rfl (.inr (by assumption)) ?_ ?_
       rotate_left
       ·(intro w; go_simp <;> (try with_reducible rfl))
       try simp only [Act.put, zq1, zq2, zq3, zq4, zq5, zq6]
       refine wpAnyG_ready (rs := [12]) (by kernel_rfl) (by simp) ?_
       refine AllReadyG.late (i := 12) rfl (by kernel_rfl) (fun K hK => ?_) ?_
       ·(obtain ⟨s1, s2, s3⟩ := hHeld; go_simp)
        refine hK.out _ _ ?_
        clear hK K
        try simp only [Act.put, zq1, zq2, zq3, zq4, zq5, zq6]
        refine wpAnyG_done (by kernel_rfl) ?_ _
        clear s1 s2 s3
        have hfin := HFin.out _ w5 _ _ rr2 (by simp) rr1 (by repeat (first | exact Only.refl _ _ | apply Only.drew | apply Only.alloc | apply Only.drewN))
        have HFin2 := Lib.hid hfin
        clear hfin rr1 rr2 HFin
        obtain ⟨w8, hw8⟩ : ∃ w8, w5.setCell ⟨b, 7, none⟩ (.slice ao5 (T.short.length + T.weak.length) c5) = w8 := ⟨_, rfl⟩
        rw [hw8] at HFin2 ⊢
        clear hw8
        obtain ⟨u8, p8⟩ := HFin2.out.1
        have f8 := HFin2.out.2.1
        go_wp2_with fail
        go_end0
        exact ⟨rfl, HFin2.out.2.2⟩
       exact AllReadyG.nil
      exact AllReadyG.nil
     exact AllReadyG.nil
    exact AllReadyG.nil
   exact AllReadyG.nil
end
theorem slBoolT : SlT Tryz.prog 28 4 1 1 := SlT.mk' (z := .bool false) Tryz.underlying28 (by kernel_rfl) rfl (by decide)
section
variable {w : World} {g : Tag} {b : Nat} {V : TrV} {T : Trail}
theorem TrAt.more (H : TrAt w g b V T) {w0 : World} {g0 : Tag} (ho : Only (fun _ => False) w w0) (ag : Agree w g g0) (fr : Fresh w0 g0) : TrAt w0 g0 b V T := by
 have hk : ∀ (t : Nat × Nat) k, g k = t → ¬ False := fun _ _ _ f => f
 exact ⟨only_block H.blk ho (fun f => f), (ag b (lt_block H.blk)).trans H.tb, H.a.keep ho (hk _) ag, H.c.keep ho (hk _) ag, H.ul, fun i hi => (H.ci i hi).keep ho (hk _) ag, H.gn.keep ho (hk _) ag, H.wr.keep ho (hk _) ag, H.wl, fun p hp => (H.wi p hp).keep ho (hk _) ag, H.l.keep ho (hk _) ag, H.L.keep ho (hk _) ag, H.s.keep ho (hk _) ag, H.k.keep ho (hk _) ag, fr⟩
theorem TrAt.capp (H : TrAt w g b V T) {u v' : Value} {c : List Int} (hu : Row w g (34, T.cls.length) 3 u (c.map cI)) (wA w5 : World) (s : Nat) (o5 : Only (fun q => g q = (33, 0)) wA w5) (hs : wA.heap.size = s)
  (r5 : Row w5 (Tag.put g s w5.heap.size (33, 0)) (33, 0) 23 v' (V.us ++ [u])) (oA : Only (fun _ => False) w wA) :
  ∃ g5, TrAt (w5.setCell ⟨b, 1, none⟩ v') g5 b { V with vc := v', us := V.us ++ [u] } { T with cls := T.cls ++ [c] } ∧ Agree w g g5 ∧ Only (Mine g) w (w5.setCell ⟨b, 1, none⟩ v') := by
 subst hs
 have ag : Agree w g (Tag.put g wA.heap.size w5.heap.size (33, 0)) := Agree.put g _ oA.size
 have o25 : Only (fun q => g q = (33, 0)) w w5 := (oA.mono fun _ f => f.elim).same o5
 exact ⟨_, H.setD ag (Fresh.put (w := wA) (33, 0) (H.fresh.more oA.size) o5.size) o25 r5 (hu.keep o25 (fun q hq h => by rw [hq] at h; simp at h) ag), ag, (o25.mono fun q hq => by unfold Mine; rw [hq]; simp).setCell (.inl (by unfold Mine; rw [H.tb]; simp)) _⟩
theorem TrAt.gapp (H : TrAt w g b V T) {v' : Value} (x : Bool) (wA w5 : World) (s : Nat) (o5 : Only (fun q => g q = (35, 0)) wA w5) (hs : wA.heap.size = s)
  (r5 : Row w5 (Tag.put g s w5.heap.size (35, 0)) (35, 0) 4 v' (T.gone.map Value.bool ++ [.bool x])) (oA : Only (fun _ => False) w wA) :
  ∃ g5, TrAt (w5.setCell ⟨b, 2, none⟩ v') g5 b { V with vg := v' } { T with gone := T.gone ++ [x] } ∧ Agree w g g5 ∧ Only (Mine g) w (w5.setCell ⟨b, 2, none⟩ v') := by
 subst hs
 have ag : Agree w g (Tag.put g wA.heap.size w5.heap.size (35, 0)) := Agree.put g _ oA.size
 have o25 : Only (fun q => g q = (35, 0)) w w5 := (oA.mono fun _ f => f.elim).same o5
 exact ⟨_, H.setG ag (Fresh.put (w := wA) (35, 0) (H.fresh.more oA.size) o5.size) o25 (by simpa [List.map_append] using r5), ag, (o25.mono fun q hq => by unfold Mine; rw [hq]; simp).setCell (.inl (by unfold Mine; rw [H.tb]; simp)) _⟩
theorem prop_add1_any (H : TrAt w g b V T) (hn : T.n ≤ 65536) (bc : Nat) (hbc : w.cell? ⟨bc, 0, none⟩ = some (.pointer (some ⟨b, 0, none⟩))) (x : Int) (hx : InI64 x) :
  Calls Tryz.prog 87 #[.int .i64 x, .pointer (some ⟨bc, 0, none⟩)] w fun e w' => e = .returned (.bool (!T.is x)) ∧ w = w' := by
 have hc := prop_is_any H hn x hx _ rfl
 have HC := Lib.hid hc
 clear hc H
 generalize T.is x = r at *
 go_enter Tryz.func87, Tryz.ntmps87
 go_wp2_with fail
 refine HC.out.mono ?_
 rintro e w' ⟨rfl, rfl⟩
 go_wp2_with fail
 go_ret
 exact ⟨rfl, rfl⟩
theorem prop_Add_no (H : TrAt w g b V T) (hn : T.n ≤ 65536) {v : Value} {xs : List Int} (hI : Ints w v xs) (hb : xs.length ≤ 17592186043904)
  (hno : Cnf.form xs = none ∨ ∃ f, Cnf.form xs = some f ∧ (∀ x ∈ f, InI64 x) ∧ f.any (fun x => !T.is x) = true) :
  Calls Tryz.prog 46 #[.pointer (some ⟨b, 0, none⟩), v] w fun e w' => e = .returned (.int .i64 (-1)) ∧ Only (fun _ => False) w w' := by
 have hmf : ∀ (fn : Fn) (first cap : Array Value) (w : World), (Instr.makeFunc fn first cap).run Tryz.prog w = .ok (.func fn first cap) w := fun _ _ _ _ => rfl
 have eg : ∀ args w, (callFunc 87 args).run Tryz.prog w = .ok (.enter 87 args) w := enters_of Tryz.func87 (by kernel_rfl) rfl
 have HEg := Lib.hid eg
 clear eg
 obtain ⟨w0, hw0⟩ : ∃ w0, w.alloc (.cells #[.pointer (some ⟨b, 0, none⟩)] 57) = w0 := ⟨_, rfl⟩
 obtain ⟨B, hB⟩ : ∃ B, w.heap.size = B := ⟨_, rfl⟩
 have hB0 : w0.cell? ⟨B, 0, none⟩ = some (.pointer (some ⟨b, 0, none⟩)) := by rw [← hw0, ← hB]; exact cell_newE _ _ _ _ rfl
 have O0 : Only (fun _ => False) w w0 := by rw [← hw0]; exact (Only.refl _ _).alloc _
 have hF := Form_anyR (hI.only0 O0) hb
 have HF := Lib.hid hF
 have HNo := Lib.hid hno
 clear hF hno
 obtain ⟨ai, ci, rfl, -, -⟩ := hI.shape
 go_enter Tryz.func46, Tryz.ntmps46
 go_wp2_with fail
 refine HF.out.mono ?_
 intro e w1 hp
 have hp2 := Lib.hid hp
 clear hp
 rcases HNo.out with hf | ⟨f, hf, hr, hany⟩
 ·have hp := hp2.out
  clear hp2
  unfold FormPost at hp
  rw [hf] at hp
  obtain ⟨rfl, O1⟩ := hp
  have hB1 := cell_keep hB0 O1 (fun f => f)
  clear hf HNo HF
  go_wp2_with fail
  go_ret
  exact ⟨rfl, O0.same O1⟩
 ·have hp := hp2.out
  clear hp2
  unfold FormPost at hp
  rw [hf] at hp
  obtain ⟨vf, rfl, R1, N1, O1⟩ := hp
  have IF := Ints.of_own R1 hr
  obtain ⟨af, cf, rfl, -, -⟩ := IF.shape
  have hB1 := cell_keep hB0 O1 (fun f => f)
  have hpred : PredI w1 87 #[.pointer (some ⟨B, 0, none⟩)] (fun x => !T.is x) f := fun x hx W hW =>
   (prop_add1_any ((H.only0 (O0.same O1)).only0 hW) hn B (cell_keep hB1 hW (fun f => f)) x (hr x hx)).mono fun _ _ ⟨he, hw⟩ => ⟨he, by rw [hw]; exact Only.refl _ _⟩
  have hcf := ContainsFunc_int IF 87 #[.pointer (some ⟨B, 0, none⟩)] _ HEg.out hpred true hany
  have HCf := Lib.hid hcf
  clear hf HNo HF hpred hcf hany hr R1 N1
  go_wp2_with fail
  refine HCf.out.mono ?_
  rintro e w2 ⟨rfl, O2⟩
  go_wp2_with fail
  go_ret
  exact ⟨rfl, (O0.same O1).same O2⟩
set_option maxRecDepth 100000 in
set_option maxHeartbeats 6400000 in
theorem prop_Add_yes (H : TrAt w g b V T) (I : Inv T) (hcb : T.cls.length < 2147483648) {v : Value} {xs f : List Int} (hI : Ints w v xs) (hb : xs.length ≤ 17592186043904) (hf : Cnf.form xs = some f) (hg : Up.Good T.n f) :
  Calls Tryz.prog 46 #[.pointer (some ⟨b, 0, none⟩), v] w fun e w' => e = .returned (cN T.cls.length) ∧ TrTo w g b (T.add f) w' := by
 have hmf : ∀ (fn : Fn) (first cap : Array Value) (w : World), (Instr.makeFunc fn first cap).run Tryz.prog w = .ok (.func fn first cap) w := fun _ _ _ _ => rfl
 have eg : ∀ args w, (callFunc 87 args).run Tryz.prog w = .ok (.enter 87 args) w := enters_of Tryz.func87 (by kernel_rfl) rfl
 have HEg := Lib.hid eg
 clear eg
 have o := I.ok
 have hn := o.n
 have hfl := hg.len
 obtain ⟨w0, hw0⟩ : ∃ w0, w.alloc (.cells #[.pointer (some ⟨b, 0, none⟩)] 57) = w0 := ⟨_, rfl⟩
 obtain ⟨B, hB⟩ : ∃ B, w.heap.size = B := ⟨_, rfl⟩
 have hB0 : w0.cell? ⟨B, 0, none⟩ = some (.pointer (some ⟨b, 0, none⟩)) := by rw [← hw0, ← hB]; exact cell_newE _ _ _ _ rfl
 have O0 : Only (fun _ => False) w w0 := by rw [← hw0]; exact (Only.refl _ _).alloc _
 have hBl : B < w0.heap.size := by rw [← hw0, ← hB]; simp
 have hgB : (g B).1 = 0 := H.fresh _ (by omega)
 have hr : ∀ x ∈ f, InI64 x := fun x hx => by have := hg.lit x hx; unfold InI64; omega
 have hany : f.any (fun x => !T.is x) = false := by
  rw [List.any_eq_false]
  intro x hx
  have : T.is x = true := decide_eq_true (hg.lit x hx)
  rw [this]; simp
 have hF := Form_anyR (hI.only0 O0) hb
 have hpost : ∀ w2 vf, w2.ownsRow 0 3 1 vf f.length (f.map cI) → (∀ k, vf.ownBlock = some k → w0.heap.size ≤ k) → Only (fun _ => False) w0 w2 →
   ∃ g0, TrAt w2 g0 b V T ∧ Row w2 g0 (34, T.cls.length) 3 vf (f.map cI) ∧ Agree w g g0 ∧ (g0 B).1 = 0 := by
  intro w2 vf R N O2
  have ow := O0.same O2
  refine ⟨fun k => if vf.ownBlock = some k then (34, T.cls.length) else g k, H.more ow ?_ ?_, ⟨by simpa using R, fun k hk => if_pos hk⟩, ?_, ?_⟩
  ·intro k hk
   simp only
   rw [if_neg (fun h => by have := N k h; have := O0.size; omega)]
  ·intro k hk
   simp only
   rw [if_neg (fun h => by have := own_lt R h; omega)]
   exact H.fresh k (by have := ow.size; omega)
  ·intro k hk
   simp only
   rw [if_neg (fun h => by have := N k h; have := O0.size; omega)]
  ·simp only
   rw [if_neg (fun h => by have := N B h; omega)]; exact hgB
 have HF := Lib.hid hF
 have HForm := Lib.hid hf
 have HPost := Lib.hid hpost
 have HAny := Lib.hid hany
 have HG := Lib.hid hg
 have HR := Lib.hid hr
 have HI := Lib.hid I
 obtain ⟨n, hN⟩ : ∃ n, T.cls.length = n := ⟨_, rfl⟩
 have HN := Lib.hid hN
 have HIs : Hid (∀ w2, Only (fun _ => False) w w2 → ∀ B, w2.cell? ⟨B, 0, none⟩ = some (.pointer (some ⟨b, 0, none⟩)) → ∀ x, InI64 x → Calls Tryz.prog 87 #[.int .i64 x, .pointer (some ⟨B, 0, none⟩)] w2 fun e w' => e = .returned (.bool (!T.is x)) ∧ w2 = w') := Lib.hid (fun w2 h B hB x hx => prop_add1_any (H.only0 h) hn B hB x hx)
 have hwb := fun p => I.wat.len p
 have HWb := Lib.hid hwb
 have hwl := o.wl
 have hsl := I.shortl
 have hgl : T.gone.length ≤ 2147483648 := by rw [o.gl]; omega
 have HWl := Lib.hid hwl
 clear hF hf hpost hany hr I o hwb hwl
 obtain ⟨ai, ci, rfl, -, -⟩ := hI.shape
 clear hI
 go_enter Tryz.func46, Tryz.ntmps46
 go_wp2_with fail
 refine HF.out.mono ?_
 intro e w1 hp
 unfold FormPost at hp
 rw [HForm.out] at hp
 obtain ⟨vf, rfl, R1, N1, O1⟩ := hp
 have IF := Ints.of_own R1 HR.out
 obtain ⟨af, cf, rfl, hcf1, hcf2⟩ := IF.shape
 have hB1 := cell_keep hB0 O1 (fun f => f)
 have hpred : PredI w1 87 #[.pointer (some ⟨B, 0, none⟩)] (fun x => !T.is x) f := fun x hx W hW =>
  (HIs.out W ((O0.same O1).same hW) B (cell_keep hB1 hW (fun f => f)) x (HR.out x hx)).mono fun _ _ ⟨he, hw⟩ => ⟨he, by rw [hw]; exact Only.refl _ _⟩
 have hcf := ContainsFunc_int IF 87 #[.pointer (some ⟨B, 0, none⟩)] _ HEg.out hpred false HAny.out
 have HCf := Lib.hid hcf
 have HR1 := Lib.hid R1
 have HN1 := Lib.hid N1
 clear hpred hcf R1 N1 HF
 go_wp2_with fail
 refine HCf.out.mono ?_
 rintro e w2 ⟨rfl, O2⟩
 obtain ⟨g0, H2, HU2, A2, hgB2⟩ := HPost.out w2 _ (own_only HR1.out O2 (fun _ _ f => f)) HN1.out (O1.same O2)
 have hB2 := cell_keep hB1 O2 (fun f => f)
 have hBl2 : B < w2.heap.size := by have := O1.size; have := O2.size; omega
 have hOw : Only (fun _ => False) w w2 := (O0.same O1).same O2
 have HOw := Lib.hid hOw
 have q1 := H2.f1
 have f1 := H2.free 1
 obtain ⟨ac, cc, hvc, -, -⟩ := H2.c.shape
 rw [H2.ul, hN] at hvc
 rw [hvc] at q1
 have hrc := H2.c
 rw [hvc] at hrc
 have hul := H2.ul
 have hS5 : ∀ w', Only (fun q => g0 q = (33, 0)) w2 w' → w'.cell? ⟨b, 1, none⟩ = some (.slice ac n cc) ∧ w'.cell? ⟨B, 0, none⟩ = some (.pointer (some ⟨b, 0, none⟩)) ∧ w'.frozen? ⟨b, 1, none⟩ = false := fun w' h =>
  ⟨cell_keep q1 h (by rw [H2.tb]; simp), cell_keep hB2 h (fun e => by rw [e] at hgB2; simp at hgB2), free_keep q1 f1 h (by rw [H2.tb]; simp)⟩
 have hfin : ∀ wA w5 v' s, Only (fun q => g0 q = (33, 0)) wA w5 → wA.heap.size = s → Row w5 (Tag.put g0 s w5.heap.size (33, 0)) (33, 0) 23 v' (V.us ++ [.slice af f.length cf]) → Only (fun _ => False) w2 wA → _ := fun wA w5 v' s h1 h2 h3 h4 => H2.capp HU2 wA w5 s h1 h2 h3 h4
 have hS0 := hS5 w2.drew ((Only.refl _ _).drew)
 have HS5 := Lib.hid hS5
 have HFin := Lib.hid hfin
 have HRu := Lib.hid hrc
 clear hS5 hfin hrc H2 HU2 O1 O2 hOw O0 hB0 hB1 HCf HR1 HN1 hvc f1
 go_wp2_with fail
 refine wp_region_G (n := 11) (E := fun i => i == 10) (S := fun w' => w'.cell? ⟨b, 1, none⟩ = some (.slice ac n cc) ∧ w'.cell? ⟨B, 0, none⟩ = some (.pointer (some ⟨b, 0, none⟩)) ∧ w'.frozen? ⟨b, 1, none⟩ = false) (by kernel_rfl) rfl hS0 (fun hHeld => ?_)
 refine tqK (i := 0) (v := ?_) rfl ?_ ?_
 rotate_left
 ·(intro w hSw; (try dsimp only at hSw); go_simp <;> (try with_reducible rfl))
 try simp only [Act.put, zq1, zq3, zq4, zq5, zq6]
 refine tqK (i := 1) (v := ?_) rfl ?_ ?_
 rotate_left
 ·(intro w hSw; (try dsimp only at hSw); go_simp <;> (try with_reducible rfl))
 try simp only [Act.put, zq1, zq2, zq3, zq4, zq5, zq6]
 refine tqW (i := 2) (v := ?_) rfl (.inr (by assumption)) ?_ ?_
 rotate_left
 ·(intro w; go_simp <;> (try with_reducible rfl))
 try simp only [Act.put, zq1, zq2, zq3, zq4, zq5, zq6]
 refine tqW (i := 3) (v := ?_) rfl (.inr (by assumption)) ?_ ?_
 rotate_left
 ·(intro w; go_simp <;> (try with_reducible rfl))
 try simp only [Act.put, zq1, zq2, zq3, zq4, zq5, zq6]
 refine tqK (i := 4) (v := ?_) rfl ?_ ?_
 rotate_left
 ·(intro w hSw; (try dsimp only at hSw); go_simp <;> (try with_reducible rfl))
 try simp only [Act.put, zq1, zq2, zq3, zq4, zq5, zq6]
 refine tqW (i := 5) (v := ?_) rfl (.inr (by assumption)) ?_ ?_
 rotate_left
 ·(intro w; go_simp <;> (try with_reducible rfl))
 try simp only [Act.put, zq1, zq2, zq3, zq4, zq5, zq6]
 refine wpAnyG_ready (rs := [6]) (by kernel_rfl) (by simp) ?_
 refine AllReadyG.cons (i := 6) rfl (fun K hK => ?_) ?_
 ·go_simp
  refine hK.out _ _ ?_ (fun hHeld => ?_)
  ·(try dsimp only) <;> (exact HS5.out _ (by repeat (first | exact Only.refl _ _ | apply Only.drew | apply Only.alloc | apply Only.drewN)))
  clear hK K
  try simp only [Act.put, zq1, zq2, zq3, zq4, zq5, zq6]
  refine wpAnyG_ready (rs := [7]) (by kernel_rfl) (by simp) ?_
  refine AllReadyG.cons (i := 7) rfl (fun K hK => ?_) ?_
  ·(refine Row.step (u := .slice af f.length cf) slInts (by rfl) (.tmp 35) (.tmp 37) (by rfl) (by rfl) (by rfl) (by simp) rfl (by repeat (first | exact HRu.out | apply Row.drew | apply Row.alloc | apply Row.drewN)) (by omega) (by decide) ?_; intro bc capc w5 rr1 rr2; rw [hul] at rr1 ⊢)
   refine hK.out _ _ ?_ (fun hHeld => ?_)
   ·(try dsimp only) <;> (exact HS5.out _ (Only.same (by repeat (first | exact Only.refl _ _ | apply Only.drew | apply Only.alloc | apply Only.drewN)) rr2))
   clear hK K
   try simp only [Act.put, zq1, zq2, zq3, zq4, zq5, zq6]
   refine tqW (i := 8) (v := ?_) rfl (.inr (by assumption)) ?_ ?_
   rotate_left
   ·(intro w; go_simp <;> (try with_reducible rfl))
   try simp only [Act.put, zq1, zq2, zq3, zq4, zq5, zq6]
   refine tqW (i := 9) (v := ?_) rfl (.inr (by assumption)) ?_ ?_
   rotate_left
   ·(intro w; go_simp <;> (try with_reducible rfl))
   try simp only [Act.put, zq1, zq2, zq3, zq4, zq5, zq6]
   refine wpAnyG_ready (rs := [10]) (by kernel_rfl) (by simp) ?_
   refine AllReadyG.late (i := 10) rfl (by kernel_rfl) (fun K hK => ?_) ?_
   ·(obtain ⟨s1, s2, s3⟩ := hHeld; go_simp)
    refine hK.out _ _ ?_
    clear hK K
    try simp only [Act.put, zq1, zq2, zq3, zq4, zq5, zq6]
    refine wpAnyG_done (by kernel_rfl) ?_ _
    clear s1 s2 s3
    obtain ⟨g3, H3, A23, O23⟩ := HFin.out _ w5 _ _ rr2 (by simp) rr1 (by repeat (first | exact Only.refl _ _ | apply Only.drew | apply Only.alloc | apply Only.drewN))
    clear rr1 rr2 HFin HRu HS5
    rw [hN] at H3 O23
    obtain ⟨w3, hw3⟩ : ∃ w3, w5.setCell ⟨b, 1, none⟩ (.slice (some ⟨bc, 0, none⟩) (n + 1) capc) = w3 := ⟨_, rfl⟩
    rw [hw3] at H3 O23 ⊢
    clear hw3
    have hB3 := cell_keep hB2 O23 (by unfold Mine; rw [hgB2]; simp)
    have hgB3 : (g3 B).1 = 0 := by rw [A23 B hBl2]; exact hgB2
    have hBl3 : B < w3.heap.size := by have := O23.size; omega
    have q2 := H3.f2
    have f2 := H3.free 2
    obtain ⟨ag, cg, hvg, -, -⟩ := H3.gn.shape
    simp only [List.length_map] at hvg
    have hrg := H3.gn
    rw [show ({ V with vc := Value.slice (some ⟨bc, 0, none⟩) (n + 1) capc, us := V.us ++ [Value.slice af f.length cf] } : TrV).vg = V.vg from rfl] at hvg hrg q2
    rw [hvg] at hrg q2
    have htb3 := H3.tb
    have hS5 : ∀ w', Only (fun q => g3 q = (35, 0)) w3 w' → w'.cell? ⟨b, 2, none⟩ = some (.slice ag T.gone.length cg) ∧ w'.cell? ⟨B, 0, none⟩ = some (.pointer (some ⟨b, 0, none⟩)) ∧ w'.frozen? ⟨b, 2, none⟩ = false := fun w' h =>
     ⟨cell_keep q2 h (by rw [htb3]; simp), cell_keep hB3 h (fun e => by rw [e] at hgB3; simp at hgB3), free_keep q2 f2 h (by rw [htb3]; simp)⟩
    have hfin : ∀ wA w5 v' s, Only (fun q => g3 q = (35, 0)) wA w5 → wA.heap.size = s → Row w5 (Tag.put g3 s w5.heap.size (35, 0)) (35, 0) 4 v' (T.gone.map Value.bool ++ [.bool false]) → Only (fun _ => False) w3 wA → _ := fun wA w5 v' s h1 h2 h3 h4 => H3.gapp false wA w5 s h1 h2 h3 h4
    have hS0 := hS5 w3.drew ((Only.refl _ _).drew)
    have HS5 := Lib.hid hS5
    have HFin := Lib.hid hfin
    have HRu := Lib.hid hrg
    clear hS5 hfin hrg H3 hvg f2 hB2
    go_wp2_with fail
    refine wp_region_G (n := 10) (E := fun i => i == 9) (S := fun w' => w'.cell? ⟨b, 2, none⟩ = some (.slice ag T.gone.length cg) ∧ w'.cell? ⟨B, 0, none⟩ = some (.pointer (some ⟨b, 0, none⟩)) ∧ w'.frozen? ⟨b, 2, none⟩ = false) (by kernel_rfl) rfl hS0 (fun hHeld => ?_)
    refine tqK (i := 0) (v := ?_) rfl ?_ ?_
    rotate_left
    ·(intro w hSw; (try dsimp only at hSw); go_simp <;> (try with_reducible rfl))
    try simp only [Act.put, zq1, zq3, zq4, zq5, zq6]
    refine tqK (i := 1) (v := ?_) rfl ?_ ?_
    rotate_left
    ·(intro w hSw; (try dsimp only at hSw); go_simp <;> (try with_reducible rfl))
    try simp only [Act.put, zq1, zq2, zq3, zq4, zq5, zq6]
    refine tqW (i := 2) (v := ?_) rfl (.inr (by assumption)) ?_ ?_
    rotate_left
    ·(intro w; go_simp <;> (try with_reducible rfl))
    try simp only [Act.put, zq1, zq2, zq3, zq4, zq5, zq6]
    refine tqW (i := 3) (v := ?_) rfl (.inr (by assumption)) ?_ ?_
    rotate_left
    ·(intro w; go_simp <;> (try with_reducible rfl))
    try simp only [Act.put, zq1, zq2, zq3, zq4, zq5, zq6]
    refine tqK (i := 4) (v := ?_) rfl ?_ ?_
    rotate_left
    ·(intro w hSw; (try dsimp only at hSw); go_simp <;> (try with_reducible rfl))
    try simp only [Act.put, zq1, zq2, zq3, zq4, zq5, zq6]
    refine wpAnyG_ready (rs := [5]) (by kernel_rfl) (by simp) ?_
    refine AllReadyG.cons (i := 5) rfl (fun K hK => ?_) ?_
    ·go_simp
     refine hK.out _ _ ?_ (fun hHeld => ?_)
     ·(try dsimp only) <;> (exact HS5.out _ (by repeat (first | exact Only.refl _ _ | apply Only.drew | apply Only.alloc | apply Only.drewN)))
     clear hK K
     try simp only [Act.put, zq1, zq2, zq3, zq4, zq5, zq6]
     refine wpAnyG_ready (rs := [6]) (by kernel_rfl) (by simp) ?_
     refine AllReadyG.cons (i := 6) rfl (fun K hK => ?_) ?_
     ·(refine Row.step (u := .bool false) slBoolT (by rfl) (.tmp 45) (.tmp 46) (by rfl) (by rfl) (by rfl) (by simp) rfl (by repeat (first | exact HRu.out | apply Row.drew | apply Row.alloc | apply Row.drewN)) (by simp only [List.length_map]; omega) (by decide) ?_; intro bg capg w5 rr1 rr2; simp only [List.length_map] at rr1 ⊢)
      refine hK.out _ _ ?_ (fun hHeld => ?_)
      ·(try dsimp only) <;> (exact HS5.out _ (Only.same (by repeat (first | exact Only.refl _ _ | apply Only.drew | apply Only.alloc | apply Only.drewN)) rr2))
      clear hK K
      try simp only [Act.put, zq1, zq2, zq3, zq4, zq5, zq6]
      refine tqW (i := 7) (v := ?_) rfl (.inr (by assumption)) ?_ ?_
      rotate_left
      ·(intro w; go_simp <;> (try with_reducible rfl))
      try simp only [Act.put, zq1, zq2, zq3, zq4, zq5, zq6]
      refine tqW (i := 8) (v := ?_) rfl (.inr (by assumption)) ?_ ?_
      rotate_left
      ·(intro w; go_simp <;> (try with_reducible rfl))
      try simp only [Act.put, zq1, zq2, zq3, zq4, zq5, zq6]
      refine wpAnyG_ready (rs := [9]) (by kernel_rfl) (by simp) ?_
      refine AllReadyG.late (i := 9) rfl (by kernel_rfl) (fun K hK => ?_) ?_
      ·(obtain ⟨s1, s2, s3⟩ := hHeld; go_simp)
       refine hK.out _ _ ?_
       clear hK K
       try simp only [Act.put, zq1, zq2, zq3, zq4, zq5, zq6]
       refine wpAnyG_done (by kernel_rfl) ?_ _
       clear s1 s2 s3
       obtain ⟨g4, H4, A34, O34⟩ := HFin.out _ w5 _ _ rr2 (by simp) rr1 (by repeat (first | exact Only.refl _ _ | apply Only.drew | apply Only.alloc | apply Only.drewN))
       clear rr1 rr2 HFin HRu HS5
       obtain ⟨w4, hw4⟩ : ∃ w4, w5.setCell ⟨b, 2, none⟩ (.slice (some ⟨bg, 0, none⟩) (T.gone.length + 1) capg) = w4 := ⟨_, rfl⟩
       rw [hw4] at H4 O34 ⊢
       clear hw4
       have A24 : Agree w2 g0 g4 := A23.trans A34 O23.size
       have O24 : Only (Mine g0) w2 w4 := O23.mine A23 O34
       have hB4 := cell_keep hB3 O34 (by unfold Mine; rw [hgB3]; simp)
       have hgB4 : (g4 B).1 = 0 := by rw [A34 B hBl3]; exact hgB3
       have hBl4 : B < w4.heap.size := by have := O34.size; omega
       clear hB3 A34 O34 A23 O23
       obtain ⟨mm, hmm⟩ : ∃ mm : Nat, mm = min f.length 2 := ⟨_, rfl⟩
       have hmm2 : min (f.length : Int) 2 = (mm : Int) := by omega
       have hmb1 : mm ≤ 2 := by omega
       have hmb2 : mm ≤ f.length := by omega
       have hmmc : (mm : Int) ≤ (cf : Int) := by omega
       obtain ⟨m2, hM2⟩ : ∃ m2, 2 * T.n = m2 := ⟨_, rfl⟩
       obtain ⟨T4, hT4⟩ : ∃ T4 : Trail, ({ T with cls := T.cls ++ [f], gone := T.gone ++ [false] } : Trail) = T4 := ⟨_, rfl⟩
       obtain ⟨V4, hV4⟩ : ∃ V4 : TrV, ({ V with vc := .slice (some ⟨bc, 0, none⟩) (n + 1) capc, us := V.us ++ [.slice af f.length cf], vg := .slice (some ⟨bg, 0, none⟩) (T.gone.length + 1) capg } : TrV) = V4 := ⟨_, rfl⟩
       have H4' : TrAt w4 g4 b V4 T4 := by rw [← hT4, ← hV4]; exact H4
       have hT4n : T4.n = T.n := by rw [← hT4]
       have hT4w : T4.watch = T.watch := by rw [← hT4]
       have hT4s : T4.short = T.short := by rw [← hT4]
       have hst : ∀ m, WLoop w4 g4 b V4 T4 (addW T.watch (f.take 0) n) (w4.drewN m) g4 V4.ws := fun m => ⟨by have h1 := H4'.drewN m; rw [show addW T.watch (f.take 0) n = T4.watch by rw [hT4w]; rfl]; exact h1, Agree.refl _ _, (Only.refl _ _).drewN m, by rw [hT4n]; exact HWl.out⟩
       have hst0 : WLoop w4 g4 b V4 T4 (addW T.watch (f.take 0) n) w4 g4 V4.ws := ⟨by rw [show addW T.watch (f.take 0) n = T4.watch by rw [hT4w]; rfl]; exact H4', Agree.refl _ _, Only.refl _ _, by rw [hT4n]; exact HWl.out⟩
       have HSt := Lib.hid hst
       have HSt0 := Lib.hid hst0
       have hvwl : 0 < f.length → ∃ bt ct, V4.vw = .slice (some ⟨bt, 0, none⟩) m2 ct := by
        intro hp
        have hgl := HG.out.lit _ (getD_mem' 0 hp)
        obtain ⟨bt, ct, hv, -, -, -, -⟩ := H4'.wr.pos (by rw [H4'.wl, hT4n]; omega)
        rw [H4'.wl, hT4n, hM2] at hv
        exact ⟨bt, ct, hv⟩
       have hbq : ∀ wr g' ws W, WLoop w4 g4 b V4 T4 W wr g' ws → wr.cell? ⟨B, 0, none⟩ = some (.pointer (some ⟨b, 0, none⟩)) := fun wr g' ws W hL => cell_keep hB4 hL.on (by unfold Mine; rw [hgB4]; simp)
       have hclk : ∀ wr g' ws W, WLoop w4 g4 b V4 T4 W wr g' ws → Row wr g' (34, n) 3 (.slice af f.length cf) (f.map cI) := fun wr g' ws W hL => by
        have h1 := hL.at_.ci n (by show n < T4.cls.length; rw [← hT4, ← hN]; simp)
        rw [show ({ T4 with watch := W } : Trail).cls.getD n [] = f by show T4.cls.getD n [] = f; rw [← hT4, ← hN]; simp [List.getD_eq_getElem?_getD]] at h1
        rwa [show ({ V4 with ws := ws } : TrV).us.getD n nilS = .slice af f.length cf by show V4.us.getD n nilS = _; rw [← hV4, ← hN, ← hul]; simp [List.getD_eq_getElem?_getD]] at h1
       have hauf : 0 < f.length → ∃ bf, af = some ⟨bf, 0, none⟩ := by
        intro hp
        have hh := hclk _ _ _ _ hst0
        obtain ⟨bf, _, he, _, _, ht, _⟩ := hh.pos (by simpa using hp)
        simp at he; exact ⟨bf, he.1⟩
       have HVw := Lib.hid hvwl
       have HBq := Lib.hid hbq
       have HClk := Lib.hid hclk
       have HAu := Lib.hid hauf
       have HM2 := Lib.hid hM2
       have HMm := Lib.hid hmm
       have HT4 := Lib.hid hT4
       have HT4n := Lib.hid hT4n
       have HT4s := Lib.hid hT4s
       have hO4 : Only (Mine g) w w4 := ((HOw.out.mono fun _ f => f.elim).mine A2 O24)
       have hA4 : Agree w g g4 := A2.trans A24 HOw.out.size
       have HO4 := Lib.hid hO4
       have HA4 := Lib.hid hA4
       clear hst hst0 hvwl hbq hclk hauf hM2 hmm hT4 hV4 H4 H4' hT4n hT4w hT4s hB4 O24 A24 hO4 hA4 hul HPost HAny HR HIs HOw
       go_wp2_with fail
       go_loopw [56] (fun v wr => ∃ (j : Nat) (g' : Tag) (ws : List Value), v = .int .i64 j ∧ j ≤ mm ∧ WLoop w4 g4 b V4 T4 (addW T.watch (f.take j) n) wr g' ws) (fun v _ => mm - (intOf v).toNat)
       case atStart => exact ⟨0, g4, V4.ws, rfl, Nat.zero_le _, HSt0.out⟩
       case round =>
        clear HSt HSt0
        obtain ⟨j, g2, ws2, rfl, hj, hL2⟩ := hrel
        by_cases cj : j < mm
        ·obtain ⟨bf, rfl⟩ := HAu.out (by omega)
         obtain ⟨bt, ct, hvw⟩ := HVw.out (by omega)
         have hjd : j < f.length := by omega
         have hlj : f.getD j 0 ≠ 0 ∧ (f.getD j 0).natAbs ≤ T.n := HG.out.lit _ (getD_mem' 0 hjd)
         have hcr := HClk.out _ _ _ _ hL2
         have qx := hcr.cellM (f := cI) 0 (i := j) hjd
         have qb := HBq.out _ _ _ _ hL2
         have hds := addW_step T.watch f n hjd
         obtain ⟨x, hx⟩ : ∃ x, f.getD j 0 = x := ⟨_, rfl⟩
         rw [hx] at hlj qx hds
         obtain ⟨W, hW⟩ : ∃ W, addW T.watch (f.take j) n = W := ⟨_, rfl⟩
         rw [hW] at hL2 hds
         have hWl : (W.getD (place x) []).length ≤ n + 2 := by
          rw [← hW]
          have := addW_le n (f.take j) T.watch n (fun p => by have := HWb.out p; rw [hN] at this; exact this) (place x)
          have h2 : (f.take j).length ≤ 2 := by rw [List.length_take]; omega
          omega
         have hpl2 : place x < 2 * T.n := Rup.place_lt hlj
         have hpl3 : place x < 2 * T4.n := by rw [HT4n.out]; exact hpl2
         have hpl : place x < m2 := by rw [← HM2.out]; exact hpl2
         have p3 := hL2.at_.f3
         have hwr := hL2.at_.wr
         have hwsl : ws2.length = m2 := by have h1 := hL2.at_.wl; rw [← HM2.out, ← HT4n.out]; exact h1
         rw [show ({ V4 with ws := ws2 } : TrV).vw = V4.vw from rfl, hvw] at p3
         rw [show ({ V4 with ws := ws2 } : TrV).vw = V4.vw from rfl, hvw, show ({ V4 with ws := ws2 } : TrV).ws = ws2 from rfl] at hwr
         have htw : g2 bt = (36, 0) := hwr.tg bt rfl
         have p4 := hwr.cell nilS (i := place x) (by omega)
         have p5 := hwr.free (place x)
         have hru := hL2.at_.wi (place x) hpl3
         rw [show ({ T4 with watch := W } : Trail).watch.getD (place x) [] = W.getD (place x) [] from rfl, show ({ V4 with ws := ws2 } : TrV).ws = ws2 from rfl] at hru
         obtain ⟨aw, cpw, hhd, -, -⟩ := hru.shape
         rw [hhd] at p4 hru
         simp only [List.length_map] at p4 hru
         have hfin : ∀ wA w5 v' s, Only (fun q => g2 q = (37, place x)) wA w5 → wA.heap.size = s → Row w5 (Tag.put g2 s w5.heap.size (37, place x)) (37, place x) 3 v' ((W.getD (place x) []).map cN ++ [.int .i64 (n : Int)]) → Only (fun _ => False) wr wA →
           ∃ g5, WLoop w4 g4 b V4 T4 (addW T.watch (f.take (j + 1)) n) (w5.setCell ⟨bt, place x, none⟩ v') g5 (ws2.set (place x) v') := by
          intro wA w5 v' s o5 hs r5 oA
          obtain ⟨g5, h1, h2, h3⟩ := hL2.at_.wapp (k := n) hL2.wl hpl3 hvw wA w5 v' s o5 hs r5 oA
          refine ⟨g5, ?_, hL2.ag.trans h2 hL2.on.size, hL2.on.mine hL2.ag h3, by rw [hds, List.length_set]; exact hL2.wl⟩
          rw [hds]; exact h1
         have hS5 : ∀ w', Only (fun q => g2 q = (37, place x)) wr w' → w'.cell? ⟨b, 3, none⟩ = some (.slice (some ⟨bt, 0, none⟩) m2 ct) ∧ w'.cell? ⟨bt, place x, none⟩ = some (.slice aw (W.getD (place x) []).length cpw) ∧ w'.frozen? ⟨bt, place x, none⟩ = false ∧ w'.cell? ⟨B, 0, none⟩ = some (.pointer (some ⟨b, 0, none⟩)) := by
          intro w' h
          have hbn2 : (g2 B).1 = 0 := by rw [hL2.ag B hBl4]; exact hgB4
          exact ⟨cell_keep p3 h (by rw [hL2.at_.tb]; simp), cell_keep p4 h (by rw [htw]; simp), free_keep p4 p5 h (by rw [htw]; simp), cell_keep qb h (fun e => by rw [e] at hbn2; simp at hbn2)⟩
         have hPl := fun W : World => prop_place_any (w := W) x T.n hn hlj (place x : Int) rfl
         have HPl := Lib.hid hPl
         have HFin := Lib.hid hfin
         have HRu := Lib.hid hru
         have hS0 := hS5 wr.drew ((Only.refl _ _).drew)
         have HS5 := Lib.hid hS5
         have pbb : (place x : Int) < (m2 : Int) := by omega
         have ewj : IntKind.i64.wrap ((j : Int) + 1) = ((j + 1 : Nat) : Int) := by rw [IntWalk.i64_in _ (by omega)]; rfl
         have hjm : (j : Int) < (mm : Int) := by omega
         clear hPl hfin hS5 hru hwr hL2 hds hcr hhd hx hW
         go_wp2_with fail
         refine wp_region_G (n := 19) (E := fun i => i == 18) (S := fun w' => w'.cell? ⟨b, 3, none⟩ = some (.slice (some ⟨bt, 0, none⟩) m2 ct) ∧ w'.cell? ⟨bt, place x, none⟩ = some (.slice aw (W.getD (place x) []).length cpw) ∧ w'.frozen? ⟨bt, place x, none⟩ = false ∧ w'.cell? ⟨B, 0, none⟩ = some (.pointer (some ⟨b, 0, none⟩))) (by kernel_rfl) rfl hS0 (fun hHeld => ?_)
         refine tqK (i := 0) (v := ?_) rfl ?_ ?_
         rotate_left
         ·(intro w hSw; (try dsimp only at hSw); go_simp <;> (try with_reducible rfl))
         try simp only [Act.put, zq1, zq3, zq4, zq5, zq6]
         refine tqW (i := 1) (v := ?_) rfl (.inr (by assumption)) ?_ ?_
         rotate_left
         ·(intro w; go_simp <;> (try with_reducible rfl))
         try simp only [Act.put, zq1, zq2, zq3, zq4, zq5, zq6]
         refine tqW (i := 2) (v := ?_) rfl (.inr (by assumption)) ?_ ?_
         rotate_left
         ·(intro w; go_simp <;> (try with_reducible rfl))
         try simp only [Act.put, zq1, zq2, zq3, zq4, zq5, zq6]
         refine tqK (i := 3) (v := ?_) rfl ?_ ?_
         rotate_left
         ·(intro w hSw; (try dsimp only at hSw); go_simp <;> (try with_reducible rfl))
         try simp only [Act.put, zq1, zq2, zq3, zq4, zq5, zq6]
         refine tqW (i := 4) (v := ?_) rfl (.inr (by assumption)) ?_ ?_
         rotate_left
         ·(intro w; go_simp <;> (try with_reducible rfl))
         try simp only [Act.put, zq1, zq2, zq3, zq4, zq5, zq6]
         refine wpAnyG_takeC (i := 5) (v := ?_) (f := 89) (args := #[.int .i64 x]) rfl (by kernel_rfl) (by kernel_rfl) (by kernel_rfl) rfl (by kernel_rfl) (by kernel_rfl) (fun _ _ _ h => h) (by assumption) (by rfl) ?_ ?_ ?_
         rotate_left
         ·(intro w; go_simp <;> (try with_reducible rfl))
         ·(intro w hSw; exact HPl.out w)
         try simp only [Act.put, zq1, zq2, zq3, zq4, zq5, zq6]
         refine tqK (i := 6) (v := ?_) rfl ?_ ?_
         rotate_left
         ·(intro w hSw; (try dsimp only at hSw); go_simp <;> (try with_reducible rfl))
         try simp only [Act.put, zq1, zq2, zq3, zq4, zq5, zq6]
         refine tqW (i := 7) (v := ?_) rfl (.inr (by assumption)) ?_ ?_
         rotate_left
         ·(intro w; go_simp <;> (try with_reducible rfl))
         try simp only [Act.put, zq1, zq2, zq3, zq4, zq5, zq6]
         refine tqW (i := 8) (v := ?_) rfl (.inr (by assumption)) ?_ ?_
         rotate_left
         ·(intro w; go_simp <;> (try with_reducible rfl))
         try simp only [Act.put, zq1, zq2, zq3, zq4, zq5, zq6]
         refine tqK (i := 9) (v := ?_) rfl ?_ ?_
         rotate_left
         ·(intro w hSw; (try dsimp only at hSw); go_simp <;> (try with_reducible rfl))
         try simp only [Act.put, zq1, zq2, zq3, zq4, zq5, zq6]
         refine tqW (i := 10) (v := ?_) rfl (.inr (by assumption)) ?_ ?_
         rotate_left
         ·(intro w; go_simp <;> (try with_reducible rfl))
         try simp only [Act.put, zq1, zq2, zq3, zq4, zq5, zq6]
         refine wpAnyG_takeC (i := 11) (v := ?_) (f := 89) (args := #[.int .i64 x]) rfl (by kernel_rfl) (by kernel_rfl) (by kernel_rfl) rfl (by kernel_rfl) (by kernel_rfl) (fun _ _ _ h => h) (by assumption) (by rfl) ?_ ?_ ?_
         rotate_left
         ·(intro w; go_simp <;> (try with_reducible rfl))
         ·(intro w hSw; exact HPl.out w)
         try simp only [Act.put, zq1, zq2, zq3, zq4, zq5, zq6]
         refine tqW (i := 12) (v := ?_) rfl (.inr (by assumption)) ?_ ?_
         rotate_left
         ·(intro w; go_simp <;> (try with_reducible rfl))
         try simp only [Act.put, zq1, zq2, zq3, zq4, zq5, zq6]
         refine tqK (i := 13) (v := ?_) rfl ?_ ?_
         rotate_left
         ·(intro w hSw; (try dsimp only at hSw); go_simp <;> (try with_reducible rfl))
         try simp only [Act.put, zq1, zq2, zq3, zq4, zq5, zq6]
         refine tqW (i := 14) (v := ?_) rfl (.inr (by assumption)) ?_ ?_
         rotate_left
         ·(intro w; go_simp <;> (try with_reducible rfl))
         try simp only [Act.put, zq1, zq2, zq3, zq4, zq5, zq6]
         refine wpAnyG_ready (rs := [15]) (by kernel_rfl) (by simp) ?_
         refine AllReadyG.cons (i := 15) rfl (fun K hK => ?_) ?_
         ·go_simp
          refine hK.out _ _ ?_ (fun hHeld => ?_)
          ·(try dsimp only) <;> (exact HS5.out _ (by repeat (first | exact Only.refl _ _ | apply Only.drew | apply Only.alloc | apply Only.drewN)))
          clear hK K
          try simp only [Act.put, zq1, zq2, zq3, zq4, zq5, zq6]
          refine wpAnyG_ready (rs := [16]) (by kernel_rfl) (by simp) ?_
          refine AllReadyG.cons (i := 16) rfl (fun K hK => ?_) ?_
          ·(refine Row.step (u := .int .i64 (n : Int)) slInt (by rfl) (.tmp 73) (.tmp 75) (by rfl) (by rfl) (by rfl) (by simp) rfl (by repeat (first | exact HRu.out | apply Row.drew | apply Row.alloc | apply Row.drewN)) (by simp only [List.length_map]; omega) (by decide) ?_; intro bb cap w5 rr1 rr2; simp only [List.length_map] at rr1 ⊢)
           refine hK.out _ _ ?_ (fun hHeld => ?_)
           ·(try dsimp only) <;> (exact HS5.out _ (Only.same (by repeat (first | exact Only.refl _ _ | apply Only.drew | apply Only.alloc | apply Only.drewN)) rr2))
           clear hK K
           try simp only [Act.put, zq1, zq2, zq3, zq4, zq5, zq6]
           refine tqW (i := 17) (v := ?_) rfl (.inr (by assumption)) ?_ ?_
           rotate_left
           ·(intro w; go_simp <;> (try with_reducible rfl))
           try simp only [Act.put, zq1, zq2, zq3, zq4, zq5, zq6]
           refine wpAnyG_ready (rs := [18]) (by kernel_rfl) (by simp) ?_
           refine AllReadyG.late (i := 18) rfl (by kernel_rfl) (fun K hK => ?_) ?_
           ·(obtain ⟨s1, s2, s3, s4⟩ := hHeld; go_simp)
            refine hK.out _ _ ?_
            clear hK K
            try simp only [Act.put, zq1, zq2, zq3, zq4, zq5, zq6]
            refine wpAnyG_done (by kernel_rfl) ?_ _
            clear s1 s2 s3 s4
            obtain ⟨g5, hfin⟩ := HFin.out _ w5 _ _ rr2 (by simp) rr1 (by repeat (first | exact Only.refl _ _ | apply Only.drew | apply Only.alloc | apply Only.drewN))
            have HFin2 := Lib.hid hfin
            clear hfin rr1 rr2 HFin
            go_wp2_with fail
            go_roundw
            case rel => exact ⟨j + 1, g5, _, by first | rfl | go_num, by omega, HFin2.out⟩
            case measure => simp [intOf]; omega
           exact AllReadyG.nil
          exact AllReadyG.nil
         exact AllReadyG.nil
        ·have htk : f.take j = f.take 2 := by
          have hje : j = min f.length 2 := by rw [← HMm.out]; omega
          rw [hje]
          rcases Nat.le_total f.length 2 with h | h
          ·rw [Nat.min_eq_left h, List.take_of_length_le (Nat.le_refl _), List.take_of_length_le h]
          ·rw [Nat.min_eq_right h]
         rw [htk] at hL2
         have H6 := hL2.at_
         have hB6 := HBq.out _ _ _ _ hL2
         have q7 := H6.f7
         have f7 := H6.free 7
         have hrs := H6.s
         rw [show ({ T4 with watch := addW T.watch (f.take 2) n } : Trail).short = T.short by show T4.short = _; exact HT4s.out] at hrs
         obtain ⟨as_, cs, hvs, -, -⟩ := hrs.shape
         simp only [List.length_map] at hvs
         rw [show ({ V4 with ws := ws2 } : TrV).vs = V4.vs from rfl] at q7 hrs hvs
         rw [hvs] at q7 hrs
         have hgB6 : (g2 B).1 = 0 := by rw [hL2.ag B hBl4]; exact hgB4
         have htb6 := H6.tb
         have hS5 : ∀ w', Only (fun q => g2 q = (40, 0)) wr w' → w'.cell? ⟨b, 7, none⟩ = some (.slice as_ T.short.length cs) ∧ w'.cell? ⟨B, 0, none⟩ = some (.pointer (some ⟨b, 0, none⟩)) ∧ w'.frozen? ⟨b, 7, none⟩ = false := fun w' h =>
          ⟨cell_keep q7 h (by rw [htb6]; simp), cell_keep hB6 h (fun e => by rw [e] at hgB6; simp at hgB6), free_keep q7 f7 h (by rw [htb6]; simp)⟩
         have hfin : ∀ wA w5 v' s, Only (fun q => g2 q = (40, 0)) wA w5 → wA.heap.size = s → RowO w5 (Tag.put g2 s w5.heap.size (40, 0)) (40, 0) 3 v' (T.short.map cN ++ [n].map cN) → Only (fun _ => False) wr wA →
           ∃ g5, TrAt (w5.setCell ⟨b, 7, none⟩ v') g5 b { ({ V4 with ws := ws2 } : TrV) with vs := v' } (T.add f) ∧ Agree wr g2 g5 ∧ Only (Mine g2) wr (w5.setCell ⟨b, 7, none⟩ v') := by
          intro wA w5 v' s o5 hs r5 oA
          obtain ⟨g5, h1, h2, h3⟩ := H6.sapp (v' := v') [n] wA w5 s o5 hs (by rw [show ({ T4 with watch := addW T.watch (f.take 2) n } : Trail).short = T.short by show T4.short = _; exact HT4s.out]; exact r5) oA
          refine ⟨g5, ?_, h2, h3⟩
          have e : T.add f = { ({ T4 with watch := addW T.watch (f.take 2) n } : Trail) with short := ({ T4 with watch := addW T.watch (f.take 2) n } : Trail).short ++ [n] } := by
           rw [← HT4.out, ← hN]; rfl
          rw [e]; exact h1
         have hend : ∀ W g7 V7, TrAt W g7 b V7 (T.add f) → Agree wr g2 g7 → Only (Mine g2) wr W → TrTo w g b (T.add f) W := by
          intro W g7 V7 h1 h2 h3
          have a1 : Agree w g g2 := HA4.out.trans hL2.ag HO4.out.size
          have o1 : Only (Mine g) w wr := HO4.out.mine HA4.out hL2.on
          exact ⟨g7, V7, h1, a1.trans h2 o1.size, o1.mine a1 h3⟩
         have hS0 := hS5 wr.drew ((Only.refl _ _).drew)
         have HS5 := Lib.hid hS5
         have HFin := Lib.hid hfin
         have HEnd := Lib.hid hend
         have HRu := Lib.hid hrs
         have hnews : ∀ (W : World) (s : Nat), W.cell? ⟨s, 0, none⟩ = some (.int .i64 (n : Int)) → ∀ ad, some (⟨s, 0, none⟩ : Addr) = some ad → ∀ jj u, ([n].map cN)[jj]? = some u → W.cell? (ad.add jj) = some u := by
          intro W s hc ad had jj u hu
          obtain rfl := Option.some.inj had
          match jj, hu with
          | 0, hu =>
           simp at hu; subst hu
           simpa [Addr.add] using hc
         have HNews := Lib.hid hnews
         clear hnews hS5 hfin hend hrs hL2 H6 hvs htk q7 f7
         go_wp2_with fail
         refine wp_region_G (n := 11) (E := fun i => i == 10) (S := fun w' => w'.cell? ⟨b, 7, none⟩ = some (.slice as_ T.short.length cs) ∧ w'.cell? ⟨B, 0, none⟩ = some (.pointer (some ⟨b, 0, none⟩)) ∧ w'.frozen? ⟨b, 7, none⟩ = false) (by kernel_rfl) rfl hS0 (fun hHeld => ?_)
         refine tqK (i := 0) (v := ?_) rfl ?_ ?_
         rotate_left
         ·(intro w hSw; (try dsimp only at hSw); go_simp <;> (try with_reducible rfl))
         try simp only [Act.put, zq1, zq3, zq4, zq5, zq6]
         refine tqK (i := 1) (v := ?_) rfl ?_ ?_
         rotate_left
         ·(intro w hSw; (try dsimp only at hSw); go_simp <;> (try with_reducible rfl))
         try simp only [Act.put, zq1, zq2, zq3, zq4, zq5, zq6]
         refine tqW (i := 2) (v := ?_) rfl (.inr (by assumption)) ?_ ?_
         rotate_left
         ·(intro w; go_simp <;> (try with_reducible rfl))
         try simp only [Act.put, zq1, zq2, zq3, zq4, zq5, zq6]
         refine tqW (i := 3) (v := ?_) rfl (.inr (by assumption)) ?_ ?_
         rotate_left
         ·(intro w; go_simp <;> (try with_reducible rfl))
         try simp only [Act.put, zq1, zq2, zq3, zq4, zq5, zq6]
         refine tqK (i := 4) (v := ?_) rfl ?_ ?_
         rotate_left
         ·(intro w hSw; (try dsimp only at hSw); go_simp <;> (try with_reducible rfl))
         try simp only [Act.put, zq1, zq2, zq3, zq4, zq5, zq6]
         refine tqW (i := 5) (v := ?_) rfl (.inr (by assumption)) ?_ ?_
         rotate_left
         ·(intro w; go_simp <;> (try with_reducible rfl))
         try simp only [Act.put, zq1, zq2, zq3, zq4, zq5, zq6]
         refine wpAnyG_ready (rs := [6]) (by kernel_rfl) (by simp) ?_
         refine AllReadyG.cons (i := 6) rfl (fun K hK => ?_) ?_
         ·go_simp
          refine hK.out _ _ ?_ (fun hHeld => ?_)
          ·(try dsimp only) <;> (exact HS5.out _ (by repeat (first | exact Only.refl _ _ | apply Only.drew | apply Only.alloc | apply Only.drewN)))
          clear hK K
          try simp only [Act.put, zq1, zq2, zq3, zq4, zq5, zq6]
          refine wpAnyG_ready (rs := [7]) (by kernel_rfl) (by simp) ?_
          refine AllReadyG.cons (i := 7) rfl (fun K hK => ?_) ?_
          ·(refine RowO.step (news := [n].map cN) slInt (by rfl) (.tmp 83) (.tmp 85) (by rfl) (by rfl) (by rfl) (by rfl) (by simp) (by exact HNews.out _ _ (by simp)) (by intro u hu; simp at hu; rw [hu]; rfl) (by repeat (first | exact HRu.out | apply RowO.drew | apply RowO.alloc | apply RowO.drewN)) (by simp; omega) (by decide) ?_; intro ao5 c5 w5 rr1 rr2; simp only [List.length_map] at rr1 ⊢)
           refine hK.out _ _ ?_ (fun hHeld => ?_)
           ·(try dsimp only) <;> (exact HS5.out _ (Only.same (by repeat (first | exact Only.refl _ _ | apply Only.drew | apply Only.alloc | apply Only.drewN)) rr2))
           clear hK K
           try simp only [Act.put, zq1, zq2, zq3, zq4, zq5, zq6]
           refine tqW (i := 8) (v := ?_) rfl (.inr (by assumption)) ?_ ?_
           rotate_left
           ·(intro w; go_simp <;> (try with_reducible rfl))
           try simp only [Act.put, zq1, zq2, zq3, zq4, zq5, zq6]
           refine tqW (i := 9) (v := ?_) rfl (.inr (by assumption)) ?_ ?_
           rotate_left
           ·(intro w; go_simp <;> (try with_reducible rfl))
           try simp only [Act.put, zq1, zq2, zq3, zq4, zq5, zq6]
           refine wpAnyG_ready (rs := [10]) (by kernel_rfl) (by simp) ?_
           refine AllReadyG.late (i := 10) rfl (by kernel_rfl) (fun K hK => ?_) ?_
           ·(obtain ⟨s1, s2, s3⟩ := hHeld; go_simp)
            refine hK.out _ _ ?_
            clear hK K
            try simp only [Act.put, zq1, zq2, zq3, zq4, zq5, zq6]
            refine wpAnyG_done (by kernel_rfl) ?_ _
            clear s1 s2 s3
            obtain ⟨g7, H7, A7, O7⟩ := HFin.out _ w5 _ _ rr2 (by simp) rr1 (by repeat (first | exact Only.refl _ _ | apply Only.drew | apply Only.alloc | apply Only.drewN))
            have hz := HEnd.out _ g7 _ H7 A7 O7
            have HZ := Lib.hid hz
            clear hz H7 A7 O7 rr1 rr2 HFin
            go_wp2_with fail
            go_ret
            exact ⟨by rw [HN.out]; rfl, HZ.out⟩
           exact AllReadyG.nil
          exact AllReadyG.nil
         exact AllReadyG.nil
      exact AllReadyG.nil
     exact AllReadyG.nil
    exact AllReadyG.nil
   exact AllReadyG.nil
  exact AllReadyG.nil
 exact AllReadyG.nil
end
end Go.Proofs.YtjedgdamommgeaaGreat

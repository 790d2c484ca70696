/- The walk of (*prop.Trail).Back. (Printed by gen_prop11.py.) -/
import Derived.Test.YtjbfgafkjejdjaaProp8
namespace Go.Proofs.Ytjbfgafkjejdjaa
open Go.RowKit
open Tr

section
variable {w : World} {g : Tag} {b : Nat} {V : TrV} {T : Trail}

theorem RowZ.cut {w : World} {g : Tag} {t : Nat × Nat} {e : TypeId} {size b n cap : Nat} {xs : List Value} (h : RowZ w g t e size (.slice (some ⟨b, 0, none⟩) n cap) n xs) {m : Nat} (hm : m ≤ n) : RowZ w g t e size (.slice (some ⟨b, 0, none⟩) m cap) m (xs.take (m * size)) := by
  refine ⟨⟨?_, ?_⟩, h.tg⟩
  · have := Nat.mul_le_mul_right size hm
    rw [List.length_take, h.own.1]; omega
  · rcases h.own.2 with ⟨h1, _⟩ | ⟨b', cap', cur, h1, h2, h3, h4, h5, h6, h7⟩
    · simp at h1
    · simp only [Value.slice.injEq, Option.some.injEq, Addr.mk.injEq] at h1
      obtain ⟨⟨rfl, _⟩, _, rfl⟩ := h1
      have := Nat.mul_le_mul_right size hm
      refine .inr ⟨b, cap, cur, rfl, h2, h3, by omega, h5, h6, ?_⟩
      rw [← h7, List.take_take, Nat.min_eq_left this]

theorem TrAt.sapp (H : TrAt w g b V T) {v' : Value} (news : List Nat) (wA w5 : World) (s : Nat) (o5 : Only (fun q => g q = (40, 0)) wA w5) (hs : wA.heap.size = s)
    (r5 : RowO w5 (Tag.put g s w5.heap.size (40, 0)) (40, 0) 3 v' (T.short.map cN ++ news.map cN)) (oA : Only (fun _ => False) w wA) :
    ∃ g5, TrAt (w5.setCell ⟨b, 7, none⟩ v') g5 b { V with vs := v' } { T with short := T.short ++ news } ∧ Agree w g g5 ∧ Only (Mine g) w (w5.setCell ⟨b, 7, none⟩ v') := by
  subst hs
  have ag : Agree w g (Tag.put g wA.heap.size w5.heap.size (40, 0)) := Agree.put g _ oA.size
  have o25 : Only (fun q => g q = (40, 0)) w w5 := (oA.mono fun _ f => f.elim).same o5
  exact ⟨_, H.setS ag (Fresh.put (w := wA) (40, 0) (H.fresh.more oA.size) o5.size) o25 (by rw [List.map_append]; exact r5), ag, (o25.mono fun q hq => by unfold Mine; rw [hq]; simp).setCell (.inl (by unfold Mine; rw [H.tb]; simp)) _⟩

/-- the cells of a row, for append -/
theorem RowT.news {w : World} {g : Tag} {t : Nat × Nat} {e : TypeId} {ao : Option Addr} {n cap : Nat} {xs : List Value} (h : Row w g t e (.slice ao n cap) xs) : ∀ W, Only (fun _ => False) w W → ∀ ad, ao = some ad → ∀ j u, xs[j]? = some u → W.cell? (ad.add j) = some u := by
  intro W oW ad had j u hu
  subst had
  have hj : j < xs.length := (List.getElem?_eq_some_iff.1 hu).1
  obtain ⟨bb, cc, he, -, -, -, -⟩ := h.pos (by omega)
  simp only [Value.slice.injEq, Option.some.injEq] at he
  obtain ⟨rfl, rfl, rfl⟩ := he
  have h1 := h.cell u hj
  rw [List.getD_eq_getElem?_getD, hu] at h1
  have h2 := cell_keep h1 oW (fun f => f)
  rw [Go.WideShapes.add_plain, Nat.zero_add]; exact h2

theorem prop_Back_stay (H : TrAt w g b V T) (x : Int) (k : Nat) (hx : max x 0 = (k : Int)) (hk : ¬ k < T.levels.length) :
    Calls Try.prog 40 #[.pointer (some ⟨b, 0, none⟩), .int .i64 x] w fun e w' => e = .returned (.tuple #[]) ∧ TrTo w g b T w' := by
  have q5 := H.f5
  obtain ⟨aL, cL, hvL, -, -⟩ := own_slice H.L.own
  rw [hvL] at q5
  have dk : decide ((T.levels.length : Int) ≤ (k : Int)) = true := decide_eq_true (by omega)
  have dk2 : decide (T.levels.length ≤ k) = true := decide_eq_true (by omega)
  have dk3 : T.levels.length ≤ k := by omega
  have hfin : ∀ W, Only (fun _ => False) w W → TrTo w g b T W := fun W oW => ⟨g, V, H.only0 oW, Agree.refl _ _, oW.mono fun _ f => f.elim⟩
  have HFin := Lib.hid hfin
  clear hfin H hk hvL
  go_enter Try.func40, Try.ntmps40
  go_wp2_with fail
  ((try simp only [Exit.inBlock, Exit.then]); refine bodyPost_ret (results_none rfl _ _ _) rfl ?_)
  exact ⟨rfl, HFin.out _ (Only.refl _ _)⟩

/-- the atoms while a level is taken off -/
theorem back_cells {n f j : Nat} {e : List (Int × Nat × Int)} (hg : Up.Good n (e.map (·.1))) (hj : f + j < e.length) {l : Int} (hl : (e.map (·.1)).getD (f + j) 0 = l) :
    (((atomCells n (e.take f ++ e.drop (f + j))).set ((l.natAbs - 1) * 3) (cI 0)).set ((l.natAbs - 1) * 3 + 1) (cI 0)).set ((l.natAbs - 1) * 3 + 2) (cI 0) = atomCells n (e.take f ++ e.drop (f + (j + 1))) := by
  have hx : e.drop (f + j) = e[f + j] :: e.drop (f + j + 1) := List.drop_eq_getElem_cons hj
  have hl2 : e[f + j].1 = l := by rw [← hl, List.getD_eq_getElem?_getD, List.getElem?_map, List.getElem?_eq_getElem hj]; rfl
  have hm : l ∈ e.map (·.1) := by rw [← hl2]; exact List.mem_map.2 ⟨_, List.getElem_mem hj, rfl⟩
  have hin := hg.lit l hm
  refine atomCells_set (y := 0) (by omega) (fun i hi => ?_) ?_
  · rw [hx]; exact (atomOf_skip (by omega)).symm
  · refine atomOf_none fun y hy => ?_
    obtain ⟨i, hi, hne, rfl⟩ : ∃ i, ∃ hi : i < e.length, i ≠ f + j ∧ e[i] = y := by
      rcases List.mem_append.1 hy with h | h
      · obtain ⟨i, hi, rfl⟩ := List.getElem_of_mem h
        simp at hi
        exact ⟨i, by omega, by omega, by simp⟩
      · obtain ⟨i, hi, rfl⟩ := List.getElem_of_mem h
        simp at hi
        exact ⟨f + (j + 1) + i, by omega, by omega, by simp⟩
    intro he
    have h1 := hg.nod
    have h2 := List.pairwise_iff_getElem.1 h1
    have e1 : ((e.map (·.1)).map Int.natAbs)[i]'(by simpa using hi) = l.natAbs := by simp only [List.getElem_map]; omega
    have e2 : ((e.map (·.1)).map Int.natAbs)[f + j]'(by simpa using hj) = l.natAbs := by simp only [List.getElem_map, hl2]
    rcases Nat.lt_or_gt_of_ne hne with c | c
    · exact h2 i (f + j) (by simpa using hi) (by simpa using hj) c (e1.trans e2.symm)
    · exact h2 (f + j) i (by simpa using hj) (by simpa using hi) c (e2.trans e1.symm)

/-- the list and the levels cut, the atoms put back -/
theorem TrAt.cutL (H : TrAt w g b V T) {w6 : World} {f k bl cl bL cL : Nat} (hvl : V.vl = .slice (some ⟨bl, 0, none⟩) T.ents.length cl) (hvL : V.vL = .slice (some ⟨bL, 0, none⟩) T.levels.length cL) (hf : f ≤ T.ents.length) (hk : k ≤ T.levels.length)
    (hb : w6.heap[b]? = some (.cells #[V.va, V.vc, V.vg, V.vw, .slice (some ⟨bl, 0, none⟩) f cl, .slice (some ⟨bL, 0, none⟩) k cL, cN T.next, V.vs, V.vk] 91 (0, 0)))
    (o6 : Only (fun q => g q = (32, 0) ∨ g q = (31, 0)) w w6) (ha : RowZ w6 g (32, 0) 96 3 V.va T.n (atomCells T.n (T.ents.take f))) :
    TrAt w6 g b { V with vl := .slice (some ⟨bl, 0, none⟩) f cl, vL := .slice (some ⟨bL, 0, none⟩) k cL } { T with ents := T.ents.take f, levels := T.levels.take k } := by
  have hkk : ∀ (t : Nat × Nat), (¬ (t = (32, 0) ∨ t = (31, 0))) → ∀ k, g k = t → ¬ (g k = (32, 0) ∨ g k = (31, 0)) := fun t ht k hk => by rw [hk]; exact ht
  have hl := H.l.only o6 (hkk _ (by simp))
  have hL := H.L.only o6 (hkk _ (by simp))
  rw [hvl] at hl
  rw [hvL] at hL
  have hl2 := hl.cut hf
  have hL2 := hL.cut hk
  rw [← levCells_take] at hL2
  refine ⟨hb, H.tb, ha, H.c.only o6 (hkk _ (by simp)), H.ul, fun i hi => (H.ci i hi).only o6 (hkk _ (by simp)), H.gn.only o6 (hkk _ (by simp)), H.wr.only o6 (hkk _ (by simp)), H.wl, fun p hp => (H.wi p hp).only o6 (hkk _ (by simp)), ?_, ?_, H.s.only o6 (hkk _ (by simp)), H.k.only o6 (hkk _ (by simp)), H.fresh.more o6.size⟩
  · have e : ((T.ents.take f).map (·.1)).map cI = (T.lits.map cI).take f := by simp [Trail.lits, List.map_take]
    show Row _ _ _ _ _ (((T.ents.take f).map (·.1)).map cI)
    rw [e]; exact hl2
  · show RowZ _ _ _ _ _ _ (T.levels.take k).length _
    rw [List.length_take, Nat.min_eq_left hk]; exact hL2

set_option maxRecDepth 100000 in
set_option maxHeartbeats 3200000 in
theorem prop_Back_go (H : TrAt w g b V T) (o : Ok T) (hsw : T.short.length + T.weak.length ≤ 1099511627776) (x : Int) (k : Nat) (hx : max x 0 = (k : Int)) (hk : k < T.levels.length) :
    Calls Try.prog 40 #[.pointer (some ⟨b, 0, none⟩), .int .i64 x] w fun e w' => e = .returned (.tuple #[]) ∧ TrTo w g b (T.backTo k) w' := by
  obtain ⟨f, nx, hfn⟩ : ∃ f nx, T.levels.getD k (0, 0) = (f, nx) := ⟨_, _, rfl⟩
  have hkm : (f, nx) ∈ T.levels := by rw [← hfn, List.getD_eq_getElem?_getD, List.getElem?_eq_getElem hk]; exact List.getElem_mem hk
  have hf : f < T.ents.length := o.lin _ hkm
  have q5 := H.f5
  obtain ⟨bL, cL, hvL, hc1, hc2⟩ := own_some H.L.own (by omega)
  have hrL := H.L
  rw [hvL] at q5 hrL
  have eL0 : (levCells T.levels)[k * 2]? = some (cN f) := by have := levCells_get T.levels k 0 hk (by decide); rw [hfn] at this; exact this
  have eL1 : (levCells T.levels)[k * 2 + 1]? = some (cN nx) := by have := levCells_get T.levels k 1 hk (by decide); rw [hfn] at this; exact this
  have hll : (levCells T.levels).length = T.levels.length * 2 := hrL.own.1
  have k0 := (hrL.own.cellAt (k * 2) (by omega)).trans eL0
  have k1 := (hrL.own.cellAt (k * 2 + 1) (by omega)).trans eL1
  have dk : decide ((T.levels.length : Int) ≤ (k : Int)) = false := decide_eq_false (by omega)
  have dk2 : decide (T.levels.length ≤ k) = false := decide_eq_false (by omega)
  have hfr := H.fresh
  obtain ⟨ga, ca, hva, hca1, hca2⟩ := own_some H.a.own (by have := o.good.len; rw [lits_len] at this; omega)
  obtain ⟨bl, cl, hvl, hcl1, hcl2, htl, -⟩ := H.l.pos (by rw [List.length_map, lits_len]; omega)
  rw [List.length_map, lits_len] at hvl hcl1
  have hAt : ∀ w1, w.alloc (.cells #[cN f, cN nx] 93) = w1 → TrAt w1 g b V T ∧ w1.cell? ⟨w.heap.size, 0, none⟩ = some (cN f) ∧ w1.cell? ⟨w.heap.size, 1, none⟩ = some (cN nx) := by
    rintro w1 rfl
    refine ⟨H.alloc _, ?_, ?_⟩ <;> (rw [cell_block (heap_alloc_new w _)]; rfl)
  have hgs : (g w.heap.size).1 = 0 := hfr _ (Nat.le_refl _)
  have hon : ∀ w1, w.alloc (.cells #[cN f, cN nx] 93) = w1 → Only (fun _ => False) w w1 := fun w1 h => by rw [← h]; exact (Only.refl _ _).alloc _
  go_enter Try.func40, Try.ntmps40
  go_wp2_with fail
  obtain ⟨w1, hw1⟩ : ∃ w1, w.alloc (.cells #[cN f, cN nx] 93) = w1 := ⟨_, rfl⟩
  rw [hw1]
  obtain ⟨H1, l0, l1⟩ := hAt w1 hw1
  have O1 := hon w1 hw1
  clear hw1 hAt hon q5 k0 k1 hrL
  generalize w.heap.size = B at *
  have q4 := H1.f4
  rw [hvl] at q4
  have hra := H1.a
  rw [hva] at hra
  have hst : ∀ n, RowZ (w1.drewN n) g (32, 0) 96 3 (.slice (some ⟨ga, 0, none⟩) T.n ca) T.n (atomCells T.n (T.ents.take f ++ T.ents.drop (f + 0))) := fun n => by
    rw [Nat.add_zero, List.take_append_drop]; exact hra.drewN n
  have HSt := Lib.hid hst
  obtain ⟨m, hm⟩ : ∃ m, T.ents.length - f = m := ⟨_, rfl⟩
  have HM := Lib.hid hm
  go_quiet (fail)
  go_wp2_with fail
  go_loopw [35] (fun v wr => ∃ j : Nat, v = .int .i64 j ∧ j ≤ m ∧ RowZ wr g (32, 0) 96 3 (.slice (some ⟨ga, 0, none⟩) T.n ca) T.n (atomCells T.n (T.ents.take f ++ T.ents.drop (f + j))) ∧ Only (fun q => g q = (32, 0)) w1 wr) (fun v _ => m - (intOf v).toNat)
  case atStart => exact ⟨0, rfl, Nat.zero_le _, HSt.out _, (Only.refl _ _).drewN _⟩
  case round =>
    obtain ⟨j, rfl, hj, hR, hO⟩ := hrel
    have HR := Lib.hid hR
    have HO := Lib.hid hO
    have hb1 : g b ≠ (32, 0) := by rw [H1.tb]; simp
    by_cases cj : j < m
    · obtain ⟨l, hl⟩ : ∃ l, T.lits.getD (f + j) 0 = l := ⟨_, rfl⟩
      have hm1 := HM.out
      have hlc : wr.cell? ⟨bl, f + j, none⟩ = some (cI l) := by
        have h1 := H1.l
        rw [hvl] at h1
        have h2 := (h1.only hO (fun q hq hF => by rw [hq] at hF; simp at hF)).cellM 0 (i := f + j) (by rw [lits_len]; omega)
        rw [hl] at h2; exact h2
      have hll2 : l ≠ 0 ∧ l.natAbs ≤ T.n := o.good.lit l (by rw [← hl]; exact getD_mem' 0 (by rw [lits_len]; omega))
      have hstep := back_cells (n := T.n) (f := f) (j := j) (e := T.ents) o.good (by omega) hl
      obtain ⟨a, ha⟩ : ∃ a : Nat, l.natAbs - 1 = a := ⟨_, rfl⟩
      rw [ha] at hstep
      have hq0 : wr.cell? ⟨b, 0, none⟩ = some (.slice (some ⟨ga, 0, none⟩) T.n ca) := by have := cell_keep H1.f0 hO hb1; rw [hva] at this; exact this
      have hn := o.n
      have ewl : IntKind.i64.wrap (-l) = -l := IntWalk.i64_in _ (by omega)
      have hmx : max l (-l) = (a : Int) + 1 := by omega
      have ewm : IntKind.i64.wrap ((a : Int) + 1 - 1) = a := by rw [IntWalk.i64_in _ (by omega)]; omega
      have ban : a < T.n := by omega
      have e0 : _ = some _ := atomCells_get (T.ents.take f ++ T.ents.drop (f + j)) (n := T.n) (i := a) (j := 0) ban (by decide)
      have e1 : _ = some _ := atomCells_get (T.ents.take f ++ T.ents.drop (f + j)) (n := T.n) (i := a) (j := 1) ban (by decide)
      have e2 : _ = some _ := atomCells_get (T.ents.take f ++ T.ents.drop (f + j)) (n := T.n) (i := a) (j := 2) ban (by decide)
      have hcl := atomCells_len T.n (T.ents.take f ++ T.ents.drop (f + j))
      have k0 := (hR.own.cellAt (a * 3) (by omega)).trans e0
      have k1 := (hR.own.cellAt (a * 3 + 1) (by omega)).trans e1
      have k2 := (hR.own.cellAt (a * 3 + 2) (by omega)).trans e2
      have f0 := hR.own.frozenAt (a * 3)
      have f1 := hR.own.frozenAt (a * 3 + 1)
      have f2 := hR.own.frozenAt (a * 3 + 2)
      have hta : g ga = (32, 0) := hR.tg ga rfl
      have hrz := (((hR.store (a * 3) (cI 0)).store (a * 3 + 1) (cI 0)).store (a * 3 + 2) (cI 0))
      rw [hstep] at hrz
      have hO2 := ((hO.setCell (p := ⟨ga, a * 3, none⟩) (.inl hta) (cI 0)).setCell (p := ⟨ga, a * 3 + 1, none⟩) (.inl hta) (cI 0)).setCell (p := ⟨ga, a * 3 + 2, none⟩) (.inl hta) (cI 0)
      have HRZ := Lib.hid hrz
      have HO2 := Lib.hid hO2
      have ewj : IntKind.i64.wrap ((j : Int) + 1) = ((j + 1 : Nat) : Int) := by rw [IntWalk.i64_in _ (by have := o.good.len; rw [lits_len] at this; omega)]; rfl
      clear e0 e1 e2 hrz hO2 hR hO hstep hcl
      generalize (cell3 (atomOf (T.ents.take f ++ T.ents.drop (f + j)) (a + 1))) = cc at *
      go_wp2_with fail
      go_roundw
      case rel => exact ⟨j + 1, rfl, by omega, HRZ.out, HO2.out⟩
      case measure => (simp [intOf]; omega)
    · have hjm : j = m := by omega
      subst hjm
      have hm1 := HM.out
      have hR2 : RowZ wr g (32, 0) 96 3 (.slice (some ⟨ga, 0, none⟩) T.n ca) T.n (atomCells T.n (T.ents.take f)) := by
        rw [List.drop_of_length_le (by omega), List.append_nil] at hR; exact hR
      have p4 := cell_keep H1.f4 hO hb1
      have p5 := cell_keep H1.f5 hO hb1
      have g4 := free_keep H1.f4 (H1.free 4) hO hb1
      have g5 := free_keep H1.f5 (H1.free 5) hO hb1
      have p0 := cell_keep l0 hO (fun h => by rw [h] at hgs; simp at hgs)
      have p1 := cell_keep l1 hO (fun h => by rw [h] at hgs; simp at hgs)
      rw [hvl] at p4
      rw [hvL] at p5
      have hH6 : ∀ W, Only (fun _ => False) wr W → TrAt ((W.setCell ⟨b, 4, none⟩ (.slice (some ⟨bl, 0, none⟩) f cl)).setCell ⟨b, 5, none⟩ (.slice (some ⟨bL, 0, none⟩) k cL)) g b { V with vl := .slice (some ⟨bl, 0, none⟩) f cl, vL := .slice (some ⟨bL, 0, none⟩) k cL } { T with ents := T.ents.take f, levels := T.levels.take k } ∧ Only (fun q => g q = (32, 0) ∨ g q = (31, 0)) w1 ((W.setCell ⟨b, 4, none⟩ (.slice (some ⟨bl, 0, none⟩) f cl)).setCell ⟨b, 5, none⟩ (.slice (some ⟨bL, 0, none⟩) k cL)) := by
        intro W oW
        have oA : Only (fun q => g q = (32, 0) ∨ g q = (31, 0)) w1 W := (hO.mono fun q hq => .inl hq).same (oW.mono fun _ f => f.elim)
        have oB := (oA.setCell (p := ⟨b, 4, none⟩) (.inl (.inr H1.tb)) (.slice (some ⟨bl, 0, none⟩) f cl)).setCell (p := ⟨b, 5, none⟩) (.inl (.inr H1.tb)) (.slice (some ⟨bL, 0, none⟩) k cL)
        have hblk := only_block (only_block H1.blk hO hb1) oW (fun f => f)
        refine ⟨H1.cutL hvl hvL (by omega) (by omega) ?_ oB ?_, oB⟩
        · rw [set_block (set_block hblk _ _)]; rfl
        · rw [hva]
          have h1 := hR2.only oW (fun _ _ f => f)
          exact (h1.far (by rw [H1.tb]; simp) _).far (by rw [H1.tb]; simp) _
      have HH6 := Lib.hid hH6
      clear hH6
      have z1 : f ≤ cl := by omega
      have z2 : k ≤ cL := by omega
      go_wp2_with fail
      refine wp_region_G (n := 21) (E := fun i => i == 17 || i == 20) (S := fun w' => w'.cell? ⟨b, 4, none⟩ = some (.slice (some ⟨bl, 0, none⟩) T.ents.length cl) ∧ w'.cell? ⟨b, 5, none⟩ = some (.slice (some ⟨bL, 0, none⟩) T.levels.length cL) ∧ w'.cell? ⟨B, 0, none⟩ = some (cN f) ∧ w'.frozen? ⟨b, 4, none⟩ = false ∧ w'.frozen? ⟨b, 5, none⟩ = false) (by kernel_rfl) rfl (by exact ⟨p4, p5, p0, g4, g5⟩) (fun hHeld => ?_)
      refine wpAnyG_takeW (i := 0) (v := ?_) rfl (by kernel_rfl) (by kernel_rfl) (by kernel_rfl) rfl (fun _ _ _ h => h) (Or.inr (by assumption)) (by rfl) ?_ ?_
      rotate_left
      · (intro w; go_simp <;> (try with_reducible rfl))
      try simp only [Act.put, List.getElem_toArray, List.getElem_cons_succ, List.getElem_cons_zero, List.setIfInBounds_toArray, List.set_cons_zero, List.set_cons_succ]
      refine wpAnyG_takeW (i := 1) (v := ?_) rfl (by kernel_rfl) (by kernel_rfl) (by kernel_rfl) rfl (fun _ _ _ h => h) (Or.inr (by assumption)) (by rfl) ?_ ?_
      rotate_left
      · (intro w; go_simp <;> (try with_reducible rfl))
      try simp only [Act.put, List.getElem_toArray, List.getElem_cons_succ, List.getElem_cons_zero, List.setIfInBounds_toArray, List.set_cons_zero, List.set_cons_succ]
      refine wpAnyG_takeW (i := 2) (v := ?_) rfl (by kernel_rfl) (by kernel_rfl) (by kernel_rfl) rfl (fun _ _ _ h => h) (Or.inr (by assumption)) (by rfl) ?_ ?_
      rotate_left
      · (intro w; go_simp <;> (try with_reducible rfl))
      try simp only [Act.put, List.getElem_toArray, List.getElem_cons_succ, List.getElem_cons_zero, List.setIfInBounds_toArray, List.set_cons_zero, List.set_cons_succ]
      refine wpAnyG_takeW (i := 3) (v := ?_) rfl (by kernel_rfl) (by kernel_rfl) (by kernel_rfl) rfl (fun _ _ _ h => h) (Or.inr (by assumption)) (by rfl) ?_ ?_
      rotate_left
      · (intro w; go_simp <;> (try with_reducible rfl))
      try simp only [Act.put, List.getElem_toArray, List.getElem_cons_succ, List.getElem_cons_zero, List.setIfInBounds_toArray, List.set_cons_zero, List.set_cons_succ]
      refine wpAnyG_takeW (i := 4) (v := ?_) rfl (by kernel_rfl) (by kernel_rfl) (by kernel_rfl) rfl (fun _ _ _ h => h) (Or.inr (by assumption)) (by rfl) ?_ ?_
      rotate_left
      · (intro w; go_simp <;> (try with_reducible rfl))
      try simp only [Act.put, List.getElem_toArray, List.getElem_cons_succ, List.getElem_cons_zero, List.setIfInBounds_toArray, List.set_cons_zero, List.set_cons_succ]
      refine wpAnyG_take (i := 5) (v := ?_) rfl (by kernel_rfl) (by kernel_rfl) (by kernel_rfl) rfl (by kernel_rfl) (by kernel_rfl) (fun _ _ _ h => h) (by assumption) (by rfl) ?_ ?_
      rotate_left
      · (intro w hSw; (try dsimp only at hSw); go_simp <;> (try with_reducible rfl))
      try simp only [Act.put, List.getElem_toArray, List.getElem_cons_succ, List.getElem_cons_zero, List.setIfInBounds_toArray, List.set_cons_zero, List.set_cons_succ]
      refine wpAnyG_takeW (i := 6) (v := ?_) rfl (by kernel_rfl) (by kernel_rfl) (by kernel_rfl) rfl (fun _ _ _ h => h) (Or.inr (by assumption)) (by rfl) ?_ ?_
      rotate_left
      · (intro w; go_simp <;> (try with_reducible rfl))
      try simp only [Act.put, List.getElem_toArray, List.getElem_cons_succ, List.getElem_cons_zero, List.setIfInBounds_toArray, List.set_cons_zero, List.set_cons_succ]
      refine wpAnyG_take (i := 7) (v := ?_) rfl (by kernel_rfl) (by kernel_rfl) (by kernel_rfl) rfl (by kernel_rfl) (by kernel_rfl) (fun _ _ _ h => h) (by assumption) (by rfl) ?_ ?_
      rotate_left
      · (intro w hSw; (try dsimp only at hSw); go_simp <;> (try with_reducible rfl))
      try simp only [Act.put, List.getElem_toArray, List.getElem_cons_succ, List.getElem_cons_zero, List.setIfInBounds_toArray, List.set_cons_zero, List.set_cons_succ]
      refine wpAnyG_takeW (i := 8) (v := ?_) rfl (by kernel_rfl) (by kernel_rfl) (by kernel_rfl) rfl (fun _ _ _ h => h) (Or.inr (by assumption)) (by rfl) ?_ ?_
      rotate_left
      · (intro w; go_simp <;> (try with_reducible rfl))
      try simp only [Act.put, List.getElem_toArray, List.getElem_cons_succ, List.getElem_cons_zero, List.setIfInBounds_toArray, List.set_cons_zero, List.set_cons_succ]
      refine wpAnyG_takeW (i := 9) (v := ?_) rfl (by kernel_rfl) (by kernel_rfl) (by kernel_rfl) rfl (fun _ _ _ h => h) (Or.inr (by assumption)) (by rfl) ?_ ?_
      rotate_left
      · (intro w; go_simp <;> (try with_reducible rfl))
      try simp only [Act.put, List.getElem_toArray, List.getElem_cons_succ, List.getElem_cons_zero, List.setIfInBounds_toArray, List.set_cons_zero, List.set_cons_succ]
      refine wpAnyG_takeW (i := 10) (v := ?_) rfl (by kernel_rfl) (by kernel_rfl) (by kernel_rfl) rfl (fun _ _ _ h => h) (Or.inr (by assumption)) (by rfl) ?_ ?_
      rotate_left
      · (intro w; go_simp <;> (try with_reducible rfl))
      try simp only [Act.put, List.getElem_toArray, List.getElem_cons_succ, List.getElem_cons_zero, List.setIfInBounds_toArray, List.set_cons_zero, List.set_cons_succ]
      refine wpAnyG_takeW (i := 11) (v := ?_) rfl (by kernel_rfl) (by kernel_rfl) (by kernel_rfl) rfl (fun _ _ _ h => h) (Or.inr (by assumption)) (by rfl) ?_ ?_
      rotate_left
      · (intro w; go_simp <;> (try with_reducible rfl))
      try simp only [Act.put, List.getElem_toArray, List.getElem_cons_succ, List.getElem_cons_zero, List.setIfInBounds_toArray, List.set_cons_zero, List.set_cons_succ]
      refine wpAnyG_take (i := 12) (v := ?_) rfl (by kernel_rfl) (by kernel_rfl) (by kernel_rfl) rfl (by kernel_rfl) (by kernel_rfl) (fun _ _ _ h => h) (by assumption) (by rfl) ?_ ?_
      rotate_left
      · (intro w hSw; (try dsimp only at hSw); go_simp <;> (try with_reducible rfl))
      try simp only [Act.put, List.getElem_toArray, List.getElem_cons_succ, List.getElem_cons_zero, List.setIfInBounds_toArray, List.set_cons_zero, List.set_cons_succ]
      refine wpAnyG_takeW (i := 13) (v := ?_) rfl (by kernel_rfl) (by kernel_rfl) (by kernel_rfl) rfl (fun _ _ _ h => h) (Or.inr (by assumption)) (by rfl) ?_ ?_
      rotate_left
      · (intro w; go_simp <;> (try with_reducible rfl))
      try simp only [Act.put, List.getElem_toArray, List.getElem_cons_succ, List.getElem_cons_zero, List.setIfInBounds_toArray, List.set_cons_zero, List.set_cons_succ]
      refine wpAnyG_takeW (i := 14) (v := ?_) rfl (by kernel_rfl) (by kernel_rfl) (by kernel_rfl) rfl (fun _ _ _ h => h) (Or.inr (by assumption)) (by rfl) ?_ ?_
      rotate_left
      · (intro w; go_simp <;> (try with_reducible rfl))
      try simp only [Act.put, List.getElem_toArray, List.getElem_cons_succ, List.getElem_cons_zero, List.setIfInBounds_toArray, List.set_cons_zero, List.set_cons_succ]
      refine wpAnyG_takeW (i := 15) (v := ?_) rfl (by kernel_rfl) (by kernel_rfl) (by kernel_rfl) rfl (fun _ _ _ h => h) (Or.inr (by assumption)) (by rfl) ?_ ?_
      rotate_left
      · (intro w; go_simp <;> (try with_reducible rfl))
      try simp only [Act.put, List.getElem_toArray, List.getElem_cons_succ, List.getElem_cons_zero, List.setIfInBounds_toArray, List.set_cons_zero, List.set_cons_succ]
      refine wpAnyG_takeW (i := 16) (v := ?_) rfl (by kernel_rfl) (by kernel_rfl) (by kernel_rfl) rfl (fun _ _ _ h => h) (Or.inr (by assumption)) (by rfl) ?_ ?_
      rotate_left
      · (intro w; go_simp <;> (try with_reducible rfl))
      try simp only [Act.put, List.getElem_toArray, List.getElem_cons_succ, List.getElem_cons_zero, List.setIfInBounds_toArray, List.set_cons_zero, List.set_cons_succ]
      refine wpAnyG_ready (rs := [17]) (by kernel_rfl) (by simp) ?_
      refine AllReadyG.late (i := 17) rfl (by kernel_rfl) (fun K hK => ?_) ?_
      · go_simp
        refine hK.out _ _ ?_
        clear hK K
        try simp only [Act.put, List.getElem_toArray, List.getElem_cons_succ, List.getElem_cons_zero, List.setIfInBounds_toArray, List.set_cons_zero, List.set_cons_succ]
        refine wpAnyG_takeW (i := 18) (v := ?_) rfl (by kernel_rfl) (by kernel_rfl) (by kernel_rfl) rfl (fun _ _ _ h => h) (Or.inl (by kernel_rfl)) (by rfl) ?_ ?_
        rotate_left
        · (intro w; go_simp <;> (try with_reducible rfl))
        try simp only [Act.put, List.getElem_toArray, List.getElem_cons_succ, List.getElem_cons_zero, List.setIfInBounds_toArray, List.set_cons_zero, List.set_cons_succ]
        refine wpAnyG_takeW (i := 19) (v := ?_) rfl (by kernel_rfl) (by kernel_rfl) (by kernel_rfl) rfl (fun _ _ _ h => h) (Or.inl (by kernel_rfl)) (by rfl) ?_ ?_
        rotate_left
        · (intro w; go_simp <;> (try with_reducible rfl))
        try simp only [Act.put, List.getElem_toArray, List.getElem_cons_succ, List.getElem_cons_zero, List.setIfInBounds_toArray, List.set_cons_zero, List.set_cons_succ]
        refine wpAnyG_ready (rs := [20]) (by kernel_rfl) (by simp) ?_
        refine AllReadyG.late (i := 20) rfl (by kernel_rfl) (fun K hK => ?_) ?_
        · go_simp
          refine hK.out _ _ ?_
          clear hK K
          try simp only [Act.put, List.getElem_toArray, List.getElem_cons_succ, List.getElem_cons_zero, List.setIfInBounds_toArray, List.set_cons_zero, List.set_cons_succ]
          refine wpAnyG_done (by kernel_rfl) ?_ _
          obtain ⟨H6, O6⟩ := HH6.out wr (Only.refl _ _)
          clear HH6 hHeld p4 p5 g4 g5 p0
          generalize ((wr.setCell ⟨b, 4, none⟩ (.slice (some ⟨bl, 0, none⟩) f cl)).setCell ⟨b, 5, none⟩ (.slice (some ⟨bL, 0, none⟩) k cL)) = w6 at *
          replace H6 := H6.drew
          replace O6 := O6.drew
          generalize w6.drew = w6 at *
          have p16 := cell_keep l1 O6 (fun h => by rcases h with h | h <;> (rw [h] at hgs; simp at hgs))
          have p66 := H6.f6
          have f66 := H6.free 6
          obtain ⟨nm, hnm⟩ : ∃ nm : Nat, min (T.next : Int) (nx : Int) = (nm : Int) := ⟨min T.next nx, by omega⟩
          go_wp2_with fail
          refine wp_region_G (n := 11) (E := fun i => i == 10) (S := fun w' => w'.cell? ⟨b, 6, none⟩ = some (cN T.next) ∧ w'.cell? ⟨B, 1, none⟩ = some (cN nx) ∧ w'.frozen? ⟨b, 6, none⟩ = false) (by kernel_rfl) rfl (by exact ⟨p66, p16, f66⟩) (fun hHeld => ?_)
          refine wpAnyG_takeW (i := 0) (v := ?_) rfl (by kernel_rfl) (by kernel_rfl) (by kernel_rfl) rfl (fun _ _ _ h => h) (Or.inr (by assumption)) (by rfl) ?_ ?_
          rotate_left
          · (intro w; go_simp <;> (try with_reducible rfl))
          try simp only [Act.put, List.getElem_toArray, List.getElem_cons_succ, List.getElem_cons_zero, List.setIfInBounds_toArray, List.set_cons_zero, List.set_cons_succ]
          refine wpAnyG_takeW (i := 1) (v := ?_) rfl (by kernel_rfl) (by kernel_rfl) (by kernel_rfl) rfl (fun _ _ _ h => h) (Or.inr (by assumption)) (by rfl) ?_ ?_
          rotate_left
          · (intro w; go_simp <;> (try with_reducible rfl))
          try simp only [Act.put, List.getElem_toArray, List.getElem_cons_succ, List.getElem_cons_zero, List.setIfInBounds_toArray, List.set_cons_zero, List.set_cons_succ]
          refine wpAnyG_takeW (i := 2) (v := ?_) rfl (by kernel_rfl) (by kernel_rfl) (by kernel_rfl) rfl (fun _ _ _ h => h) (Or.inr (by assumption)) (by rfl) ?_ ?_
          rotate_left
          · (intro w; go_simp <;> (try with_reducible rfl))
          try simp only [Act.put, List.getElem_toArray, List.getElem_cons_succ, List.getElem_cons_zero, List.setIfInBounds_toArray, List.set_cons_zero, List.set_cons_succ]
          refine wpAnyG_takeW (i := 3) (v := ?_) rfl (by kernel_rfl) (by kernel_rfl) (by kernel_rfl) rfl (fun _ _ _ h => h) (Or.inr (by assumption)) (by rfl) ?_ ?_
          rotate_left
          · (intro w; go_simp <;> (try with_reducible rfl))
          try simp only [Act.put, List.getElem_toArray, List.getElem_cons_succ, List.getElem_cons_zero, List.setIfInBounds_toArray, List.set_cons_zero, List.set_cons_succ]
          refine wpAnyG_take (i := 4) (v := ?_) rfl (by kernel_rfl) (by kernel_rfl) (by kernel_rfl) rfl (by kernel_rfl) (by kernel_rfl) (fun _ _ _ h => h) (by assumption) (by rfl) ?_ ?_
          rotate_left
          · (intro w hSw; (try dsimp only at hSw); go_simp <;> (try with_reducible rfl))
          try simp only [Act.put, List.getElem_toArray, List.getElem_cons_succ, List.getElem_cons_zero, List.setIfInBounds_toArray, List.set_cons_zero, List.set_cons_succ]
          refine wpAnyG_takeW (i := 5) (v := ?_) rfl (by kernel_rfl) (by kernel_rfl) (by kernel_rfl) rfl (fun _ _ _ h => h) (Or.inr (by assumption)) (by rfl) ?_ ?_
          rotate_left
          · (intro w; go_simp <;> (try with_reducible rfl))
          try simp only [Act.put, List.getElem_toArray, List.getElem_cons_succ, List.getElem_cons_zero, List.setIfInBounds_toArray, List.set_cons_zero, List.set_cons_succ]
          refine wpAnyG_take (i := 6) (v := ?_) rfl (by kernel_rfl) (by kernel_rfl) (by kernel_rfl) rfl (by kernel_rfl) (by kernel_rfl) (fun _ _ _ h => h) (by assumption) (by rfl) ?_ ?_
          rotate_left
          · (intro w hSw; (try dsimp only at hSw); go_simp <;> (try with_reducible rfl))
          try simp only [Act.put, List.getElem_toArray, List.getElem_cons_succ, List.getElem_cons_zero, List.setIfInBounds_toArray, List.set_cons_zero, List.set_cons_succ]
          refine wpAnyG_takeW (i := 7) (v := ?_) rfl (by kernel_rfl) (by kernel_rfl) (by kernel_rfl) rfl (fun _ _ _ h => h) (Or.inr (by assumption)) (by rfl) ?_ ?_
          rotate_left
          · (intro w; go_simp <;> (try with_reducible rfl))
          try simp only [Act.put, List.getElem_toArray, List.getElem_cons_succ, List.getElem_cons_zero, List.setIfInBounds_toArray, List.set_cons_zero, List.set_cons_succ]
          refine wpAnyG_takeW (i := 8) (v := ?_) rfl (by kernel_rfl) (by kernel_rfl) (by kernel_rfl) rfl (fun _ _ _ h => h) (Or.inr (by assumption)) (by rfl) ?_ ?_
          rotate_left
          · (intro w; go_simp <;> (try with_reducible rfl))
          try simp only [Act.put, List.getElem_toArray, List.getElem_cons_succ, List.getElem_cons_zero, List.setIfInBounds_toArray, List.set_cons_zero, List.set_cons_succ]
          refine wpAnyG_takeW (i := 9) (v := ?_) rfl (by kernel_rfl) (by kernel_rfl) (by kernel_rfl) rfl (fun _ _ _ h => h) (Or.inr (by assumption)) (by rfl) ?_ ?_
          rotate_left
          · (intro w; go_simp <;> (try with_reducible rfl))
          try simp only [Act.put, List.getElem_toArray, List.getElem_cons_succ, List.getElem_cons_zero, List.setIfInBounds_toArray, List.set_cons_zero, List.set_cons_succ]
          refine wpAnyG_ready (rs := [10]) (by kernel_rfl) (by simp) ?_
          refine AllReadyG.late (i := 10) rfl (by kernel_rfl) (fun K hK => ?_) ?_
          · go_simp
            refine hK.out _ _ ?_
            clear hK K
            try simp only [Act.put, List.getElem_toArray, List.getElem_cons_succ, List.getElem_cons_zero, List.setIfInBounds_toArray, List.set_cons_zero, List.set_cons_succ]
            refine wpAnyG_done (by kernel_rfl) ?_ _
            have H7 := H6.setN (m := nm) (Agree.refl _ _) H6.fresh (Only.refl _ _)
            have O7 := O6.setCell (p := ⟨b, 6, none⟩) (.inl (.inr H1.tb)) (cN nm)
            clear H6 O6 hHeld p66 f66
            generalize w6.setCell ⟨b, 6, none⟩ (cN nm) = w7 at *
            have q7 := H7.f7
            have q8 := H7.f8
            have f7 := H7.free 7
            have HRS := Lib.hid H7.s
            obtain ⟨as_, cs, hvs, -, -⟩ := H7.s.shape
            simp only [List.length_map] at hvs
            obtain ⟨ak, ck, hvk, -, -⟩ := H7.k.shape
            simp only [List.length_map] at hvk
            have hrk := H7.k
            rw [show ({ V with vl := Value.slice (some ⟨bl, 0, none⟩) f cl, vL := Value.slice (some ⟨bL, 0, none⟩) k cL } : TrV).vs = V.vs from rfl] at hvs HRS q7
            rw [show ({ V with vl := Value.slice (some ⟨bl, 0, none⟩) f cl, vL := Value.slice (some ⟨bL, 0, none⟩) k cL } : TrV).vk = V.vk from rfl] at hvk hrk q8
            rw [hvs] at q7 HRS
            rw [hvk] at q8 hrk
            have HNews := Lib.hid (RowT.news hrk)
            have hnone : ak = none → T.weak.length = 0 ∧ ck = 0 := fun e => by rw [e] at hrk; exact own_nil hrk.own
            have HNone := Lib.hid hnone
            have hS5 : ∀ w', Only (fun q => g q = (40, 0)) w7 w' → w'.cell? ⟨b, 7, none⟩ = some (.slice as_ T.short.length cs) ∧ w'.cell? ⟨b, 8, none⟩ = some (.slice ak T.weak.length ck) ∧ w'.frozen? ⟨b, 7, none⟩ = false := fun w' h =>
              ⟨cell_keep q7 h (by rw [H7.tb]; simp), cell_keep q8 h (by rw [H7.tb]; simp), free_keep q7 f7 h (by rw [H7.tb]; simp)⟩
            have hS0 := hS5 w7.drew ((Only.refl _ _).drew)
            have HS5 := Lib.hid hS5
            have hfin : ∀ wA w5 v' s, Only (fun q => g q = (40, 0)) wA w5 → wA.heap.size = s → RowO w5 (Tag.put g s w5.heap.size (40, 0)) (40, 0) 3 v' (T.short.map cN ++ T.weak.map cN) → Only (fun _ => False) w7 wA →
                (∃ u, (w5.setCell ⟨b, 7, none⟩ v').cell? ⟨b, 8, none⟩ = some u) ∧ (w5.setCell ⟨b, 7, none⟩ v').frozen? ⟨b, 8, none⟩ = false ∧ TrTo w g b (T.backTo k) ((w5.setCell ⟨b, 7, none⟩ v').setCell ⟨b, 8, none⟩ nilS) := by
              intro wA w5 v' s o5 hs r5 oA
              obtain ⟨g5, H8, A8, O8⟩ := H7.sapp (v' := v') T.weak wA w5 s o5 hs r5 oA
              refine ⟨⟨_, H8.f8⟩, H8.free 8, ?_⟩
              have hb : T.backTo k = { ({ T with ents := T.ents.take f, levels := T.levels.take k, next := nm, short := T.short ++ T.weak } : Trail) with weak := [] } := by
                unfold Trail.backTo
                rw [hfn]
                have : min T.next nx = nm := by omega
                rw [this]
              rw [hb]
              have H9 := H8.setK (ss := []) (v := nilS) (Agree.refl _ _) H8.fresh (Only.refl _ _) (Row.nil _ _ _ _)
              refine ⟨g5, _, H9, (Agree.refl w g).trans A8 (by have := O1.size; have := O7.size; omega), ?_⟩
              have oA1 : Only (Mine g) w w7 := (O1.mono fun _ f => f.elim).same (O7.mono fun q hq => by unfold Mine; rcases hq with h | h <;> rw [h] <;> simp)
              exact (oA1.same O8).setCell (.inl (by unfold Mine; rw [H1.tb]; simp)) _
            have HFin := Lib.hid hfin
            clear hS5 hfin hrk hnone q7 q8 f7 H7 O7
            go_wp2_with fail
            refine wp_region_G (n := 13) (E := fun i => i == 12) (S := fun w' => w'.cell? ⟨b, 7, none⟩ = some (.slice as_ T.short.length cs) ∧ w'.cell? ⟨b, 8, none⟩ = some (.slice ak T.weak.length ck) ∧ w'.frozen? ⟨b, 7, none⟩ = false) (by kernel_rfl) rfl hS0 (fun hHeld => ?_)
            refine wpAnyG_takeW (i := 0) (v := ?_) rfl (by kernel_rfl) (by kernel_rfl) (by kernel_rfl) rfl (fun _ _ _ h => h) (Or.inr (by assumption)) (by rfl) ?_ ?_
            rotate_left
            · (intro w; go_simp <;> (try with_reducible rfl))
            try simp only [Act.put, List.getElem_toArray, List.getElem_cons_succ, List.getElem_cons_zero, List.setIfInBounds_toArray, List.set_cons_zero, List.set_cons_succ]
            refine wpAnyG_takeW (i := 1) (v := ?_) rfl (by kernel_rfl) (by kernel_rfl) (by kernel_rfl) rfl (fun _ _ _ h => h) (Or.inr (by assumption)) (by rfl) ?_ ?_
            rotate_left
            · (intro w; go_simp <;> (try with_reducible rfl))
            try simp only [Act.put, List.getElem_toArray, List.getElem_cons_succ, List.getElem_cons_zero, List.setIfInBounds_toArray, List.set_cons_zero, List.set_cons_succ]
            refine wpAnyG_takeW (i := 2) (v := ?_) rfl (by kernel_rfl) (by kernel_rfl) (by kernel_rfl) rfl (fun _ _ _ h => h) (Or.inr (by assumption)) (by rfl) ?_ ?_
            rotate_left
            · (intro w; go_simp <;> (try with_reducible rfl))
            try simp only [Act.put, List.getElem_toArray, List.getElem_cons_succ, List.getElem_cons_zero, List.setIfInBounds_toArray, List.set_cons_zero, List.set_cons_succ]
            refine wpAnyG_takeW (i := 3) (v := ?_) rfl (by kernel_rfl) (by kernel_rfl) (by kernel_rfl) rfl (fun _ _ _ h => h) (Or.inr (by assumption)) (by rfl) ?_ ?_
            rotate_left
            · (intro w; go_simp <;> (try with_reducible rfl))
            try simp only [Act.put, List.getElem_toArray, List.getElem_cons_succ, List.getElem_cons_zero, List.setIfInBounds_toArray, List.set_cons_zero, List.set_cons_succ]
            refine wpAnyG_take (i := 4) (v := ?_) rfl (by kernel_rfl) (by kernel_rfl) (by kernel_rfl) rfl (by kernel_rfl) (by kernel_rfl) (fun _ _ _ h => h) (by assumption) (by rfl) ?_ ?_
            rotate_left
            · (intro w hSw; (try dsimp only at hSw); go_simp <;> (try with_reducible rfl))
            try simp only [Act.put, List.getElem_toArray, List.getElem_cons_succ, List.getElem_cons_zero, List.setIfInBounds_toArray, List.set_cons_zero, List.set_cons_succ]
            refine wpAnyG_takeW (i := 5) (v := ?_) rfl (by kernel_rfl) (by kernel_rfl) (by kernel_rfl) rfl (fun _ _ _ h => h) (Or.inr (by assumption)) (by rfl) ?_ ?_
            rotate_left
            · (intro w; go_simp <;> (try with_reducible rfl))
            try simp only [Act.put, List.getElem_toArray, List.getElem_cons_succ, List.getElem_cons_zero, List.setIfInBounds_toArray, List.set_cons_zero, List.set_cons_succ]
            refine wpAnyG_takeW (i := 6) (v := ?_) rfl (by kernel_rfl) (by kernel_rfl) (by kernel_rfl) rfl (fun _ _ _ h => h) (Or.inr (by assumption)) (by rfl) ?_ ?_
            rotate_left
            · (intro w; go_simp <;> (try with_reducible rfl))
            try simp only [Act.put, List.getElem_toArray, List.getElem_cons_succ, List.getElem_cons_zero, List.setIfInBounds_toArray, List.set_cons_zero, List.set_cons_succ]
            refine wpAnyG_takeW (i := 7) (v := ?_) rfl (by kernel_rfl) (by kernel_rfl) (by kernel_rfl) rfl (fun _ _ _ h => h) (Or.inr (by assumption)) (by rfl) ?_ ?_
            rotate_left
            · (intro w; go_simp <;> (try with_reducible rfl))
            try simp only [Act.put, List.getElem_toArray, List.getElem_cons_succ, List.getElem_cons_zero, List.setIfInBounds_toArray, List.set_cons_zero, List.set_cons_succ]
            refine wpAnyG_take (i := 8) (v := ?_) rfl (by kernel_rfl) (by kernel_rfl) (by kernel_rfl) rfl (by kernel_rfl) (by kernel_rfl) (fun _ _ _ h => h) (by assumption) (by rfl) ?_ ?_
            rotate_left
            · (intro w hSw; (try dsimp only at hSw); go_simp <;> (try with_reducible rfl))
            try simp only [Act.put, List.getElem_toArray, List.getElem_cons_succ, List.getElem_cons_zero, List.setIfInBounds_toArray, List.set_cons_zero, List.set_cons_succ]
            refine wpAnyG_ready (rs := [9]) (by kernel_rfl) (by simp) ?_
            refine AllReadyG.cons (i := 9) rfl (fun K hK => ?_) ?_
            · (refine RowO.step (news := T.weak.map cN) slInt (by rfl) (.tmp 84) (.tmp 88) (by rfl) (by rfl) (by rfl) (by simp) (by exact HNone.out) (by exact HNews.out _ (by repeat (first | exact Only.refl _ _ | apply Only.drew | apply Only.alloc | apply Only.drewN))) (by intro u hu; obtain ⟨q, -, rfl⟩ := List.mem_map.1 hu; rfl) (by repeat (first | exact HRS.out | apply RowO.drew | apply RowO.alloc | apply RowO.drewN)) (by simp only [List.length_map]; omega) (by decide) ?_; intro ao5 c5 w5 rr1 rr2; simp only [List.length_map] at rr1 ⊢)
              refine hK.out _ _ ?_ (fun hHeld => ?_)
              · (try dsimp only) <;> (exact HS5.out _ (Only.same (by repeat (first | exact Only.refl _ _ | apply Only.drew | apply Only.alloc | apply Only.drewN)) rr2))
              clear hK K
              try simp only [Act.put, List.getElem_toArray, List.getElem_cons_succ, List.getElem_cons_zero, List.setIfInBounds_toArray, List.set_cons_zero, List.set_cons_succ]
              refine wpAnyG_takeW (i := 10) (v := ?_) rfl (by kernel_rfl) (by kernel_rfl) (by kernel_rfl) rfl (fun _ _ _ h => h) (Or.inr (by assumption)) (by rfl) ?_ ?_
              rotate_left
              · (intro w; go_simp <;> (try with_reducible rfl))
              try simp only [Act.put, List.getElem_toArray, List.getElem_cons_succ, List.getElem_cons_zero, List.setIfInBounds_toArray, List.set_cons_zero, List.set_cons_succ]
              refine wpAnyG_takeW (i := 11) (v := ?_) rfl (by kernel_rfl) (by kernel_rfl) (by kernel_rfl) rfl (fun _ _ _ h => h) (Or.inr (by assumption)) (by rfl) ?_ ?_
              rotate_left
              · (intro w; go_simp <;> (try with_reducible rfl))
              try simp only [Act.put, List.getElem_toArray, List.getElem_cons_succ, List.getElem_cons_zero, List.setIfInBounds_toArray, List.set_cons_zero, List.set_cons_succ]
              refine wpAnyG_ready (rs := [12]) (by kernel_rfl) (by simp) ?_
              refine AllReadyG.late (i := 12) rfl (by kernel_rfl) (fun K hK => ?_) ?_
              · (obtain ⟨s1, s2, s3⟩ := hHeld; go_simp)
                refine hK.out _ _ ?_
                clear hK K
                try simp only [Act.put, List.getElem_toArray, List.getElem_cons_succ, List.getElem_cons_zero, List.setIfInBounds_toArray, List.set_cons_zero, List.set_cons_succ]
                refine wpAnyG_done (by kernel_rfl) ?_ _
                clear s1 s2 s3
                have hfin := HFin.out _ w5 _ _ rr2 (by simp) rr1 (by repeat (first | exact Only.refl _ _ | apply Only.drew | apply Only.alloc | apply Only.drewN))
                have HFin2 := Lib.hid hfin
                clear hfin rr1 rr2 HFin
                obtain ⟨w8, hw8⟩ : ∃ w8, w5.setCell ⟨b, 7, none⟩ (.slice ao5 (T.short.length + T.weak.length) c5) = w8 := ⟨_, rfl⟩
                rw [hw8] at HFin2 ⊢
                clear hw8
                obtain ⟨u8, p8⟩ := HFin2.out.1
                have f8 := HFin2.out.2.1
                go_wp2_with fail
                go_end0
                exact ⟨rfl, HFin2.out.2.2⟩
              exact AllReadyG.nil
            exact AllReadyG.nil
          exact AllReadyG.nil
        exact AllReadyG.nil
      exact AllReadyG.nil
end
end Go.Proofs.Ytjbfgafkjejdjaa

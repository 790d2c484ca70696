/- (*counter).merge: the walk. -/
import Derived.Test.YtjedgdamommgeaaGreatTot4
set_option linter.unusedVariables false
namespace Go.Proofs.YtjedgdamommgeaaGreat
open Go.RowKit
theorem RepAt.lit (wr : World) (a : Int) : RepAt wr (wr.alloc (.cells #[.int .i64 a] 3)) (.slice (some ⟨wr.heap.size, 0, none⟩) 1 1) [a] :=
 ⟨World.ownsRow_lit (base := 0) (e := 3) (size := 1) wr #[.int .i64 a] 1 (Nat.zero_le _) (by unfold maxLen; omega) (by simp), fun k hk => by simp [Value.ownBlock] at hk; omega, (Only.refl _ _).alloc _, by simp⟩
theorem RepAt.snoc {w W w' : World} {v v' : Value} {cur : List Int} {x : Int} {o : Obj} (h : RepAt w W v cur) (hl : cur.length < 100) (s1 : w'.ownsRow 0 3 1 v' (cur.length + 1) (cur.map cI ++ [.int .i64 x])) (s2 : Only (fun k => v.ownBlock = some k) (W.alloc o) w') (s3 : AppTo (W.alloc o) v v' (cur.length + 1)) : RepAt w w' v' (cur ++ [x]) := by
 refine ⟨by simpa using s1, fun k hk => ?_, (h.only.alloc _).trans s2 (fun k hk => .inr (h.new k hk)), by simp; omega⟩
 obtain ⟨gg, cap, rfl, _, _, hg⟩ := s3
 simp [Value.ownBlock] at hk
 subst hk
 rcases hg with hg | hg
 ·exact h.new _ hg
 ·have := h.only.size; simp at hg; omega
theorem Ints.cell {w : World} {b o n cap : Nat} {xs : List Int} (h : Ints w (.slice (some ⟨b, o, none⟩) n cap) xs) {i : Nat} (hi : i < xs.length) : w.cell? ⟨b, o + i, none⟩ = some (.int .i64 (xs.getD i 0)) := by
 obtain ⟨b', o', he, _, hc⟩ := h.cells _ _ _ rfl (by omega)
 simp at he
 obtain ⟨rfl, rfl⟩ := he
 exact hc i hi
theorem Ints.nilI (w : World) : Ints w (.slice none 0 0) [] := Ints.of_own (World.ownsRow_nil _ _ _ _) (by simp)
def NewI (w : World) (v : Value) (xs : List Int) : Prop := 0 < xs.length → ∀ k, Value.blk v = some k → w.heap.size ≤ k
def CtRes (w : World) (gt gb : Tag) (c bt bb : Nat) (cap : Int) (n lim : Nat) (fl : Bool) (B : Bld) (v : Value) (out : List Int) (w' : World) : Prop :=
 ∃ gt' gb' hp, hp ≤ n ∧ CtAt w' gt' gb' c bt bb cap (Tot.hT n lim hp fl) B ∧ Agree w gt gt' ∧ Agree w gb gb' ∧ Only (fun k => Mine gt k ∨ Mine gb k) w w' ∧ Ints w' v out ∧ NotMine gt' v out ∧ NotMine gb' v out ∧ NewI w v out
structure Mrg (w : World) (gt gb : Tag) (c bt bb : Nat) (cap : Int) (T : Tab) (gt' : Tag) (M m : Nat) (out : List Int) (wr : World) (gb' : Tag) (B : Bld) : Prop where
 at_ : CtAt wr gt' gb' c bt bb cap T B
 agb : Agree w gb gb'
 only : Only (fun i => Mine gt i ∨ Mine gb i) w wr
 row : wr.ownsRow 0 3 1 (.slice (some ⟨M, 0, none⟩) m m) m (out.map cI)
 mb : (gb' M).1 = 0
section
variable {w : World} {gt gb : Tag} {c bt bb : Nat} {cap : Int} {T : Tab} {gt' : Tag} {M m : Nat} {out : List Int} {wr : World} {gb' : Tag} {B : Bld}
theorem Mrg.add (H : Mrg w gt gb c bt bb cap T gt' M m out wr gb' B) (ha : Agree w gt gt') {w1 w2 : World} (o1 : Only (fun _ => False) wr w1) {B2 : Bld} (h : BldTo w1 gb' bb B2 w2) : ∃ gb2, Mrg w gt gb c bt bb cap T gt' M m out w2 gb2 B2 := by
 have H1 := H.at_.only0 o1
 obtain ⟨g2, V2, H2, A2, O2⟩ := h
 obtain ⟨U, hU⟩ := H1.tab
 have hc := lt_block H1.blk
 have hrow1 := own_only H.row o1 (fun _ _ f => f)
 have hM : M < w1.heap.size := own_lt hrow1 rfl
 refine ⟨g2, ⟨⟨only_block H1.blk O2 (fun h => h H1.tc'), H1.tc, by rw [A2 c hc]; exact H1.tc', ⟨U, hU.only O2 (fun k hk hm => H1.dis k hk hm)⟩, ⟨V2, H2⟩, fun k hk hm => ?_⟩, ?_, ?_, own_only hrow1 O2 (fun k hk => by simp [Value.ownBlock] at hk; subst hk; exact fun h => h H.mb), by rw [A2 M hM]; exact H.mb⟩⟩
 ·have hlt : k < w1.heap.size := by
   rcases Nat.lt_or_ge k w1.heap.size with h | h
   ·exact h
   ·exact absurd (hU.fresh k h) hk
  refine H1.dis k hk ?_
  unfold Mine at hm ⊢
  rwa [A2 k hlt] at hm
 ·exact H.agb.trans A2 (by have := H.only.size; have := o1.size; omega)
 ·refine (H.only.same (o1.mono fun _ f => f.elim)).trans O2 (fun i hi => ?_)
  rcases Nat.lt_or_ge i w.heap.size with hlt | hge
  ·refine .inl (.inr ?_)
   unfold Mine at hi ⊢
   rwa [H.agb i hlt] at hi
  ·exact .inr hge
end
section
variable {w : World} {gt gb : Tag} {c bt bb : Nat} {cap : Int} {n0 lim hp : Nat} {fl : Bool} {B : Bld}
set_option maxRecDepth 100000 in
set_option maxHeartbeats 6400000 in
theorem merge_any (H : CtAt w gt gb c bt bb cap (Tot.hT n0 lim hp fl) B) (hhp : hp ≤ n0) {vx vy : Value} {x y : List Int} (hx : Ints w vx x) (hy : Ints w vy y) (x1 : 1 ≤ x.length) (y1 : 1 ≤ y.length) (x2 : x.length ≤ 1000) (y2 : y.length ≤ 1000)
  (hxt : NotMine gt vx x) (hxb : NotMine gb vx x) (hyt : NotMine gt vy y) (hyb : NotMine gb vy y) (hxs : ∀ z ∈ x, z.natAbs ≤ 1000000) (hys : ∀ z ∈ y, z.natAbs ≤ 1000000) (hc1 : 1 ≤ cap) (hc2 : cap ≤ 9223372036854775807) (m : Nat) (hm : min ((x.length : Int) + (y.length : Int)) cap = (m : Int)) :
  Calls Tryz.prog 98 #[.pointer (some ⟨c, 0, none⟩), vx, vy] w fun e w' => ∃ v', e = .returned v' ∧ (if n0 + m ≤ lim then CtRes w gt gb c bt bb cap (n0 + m) lim fl (Tot.adds B (Tot.allC x y (Tot.nums n0 m) m (x.length + 1))) v' (Tot.nums n0 m) w' else CtRes w gt gb c bt bb cap lim lim true B v' [] w') := by
 have m1 : 1 ≤ m := by omega
 have m2 : m ≤ 2000 := by omega
 have q2 : w.cell? ⟨c, 2, none⟩ = some (.int .i64 cap) := by rw [cell_block H.blk]; rfl
 have hlim : lim ≤ 65536 := by obtain ⟨V, hV⟩ := H.tab; exact hV.lim
 have hn0 : n0 ≤ lim := by obtain ⟨V, hV⟩ := H.tab; have := hV.len; simpa [Tot.hT] using this
 have hxk : ∀ wr, Only (fun i => Mine gt i ∨ Mine gb i) w wr → Ints wr vx x := fun wr ho => hx.only' ho (fun hp b hb h => by rcases h with h | h; exact h (hxt hp b hb); exact h (hxb hp b hb))
 have hyk : ∀ wr, Only (fun i => Mine gt i ∨ Mine gb i) w wr → Ints wr vy y := fun wr ho => hy.only' ho (fun hp b hb h => by rcases h with h | h; exact h (hyt hp b hb); exact h (hyb hp b hb))
 obtain ⟨ax, cx, rfl, hx3, hx4⟩ := hx.shape
 obtain ⟨ay, cy, rfl, hy3, hy4⟩ := hy.shape
 have hfill : ∀ w', w'.ownsRow 0 3 1 (.slice (some ⟨w.heap.size, 0, none⟩) m m) m (List.replicate m (.int .i64 0)) → Only (fun _ => False) w w' → Fill w gt gb c bt bb cap n0 lim fl B w.heap.size m 0 w' gt hp n0 fl := by
  intro w' r1 o1
  obtain ⟨V, hV⟩ := H.tab
  obtain ⟨U, hU⟩ := H.bld
  refine ⟨hhp, by omega, by rw [decide_eq_false (by omega)]; simp, H.only0 o1, Agree.refl _ _, o1.mono fun _ f => f.elim, ?_, hV.fresh _ (Nat.le_refl _), hU.fresh _ (Nat.le_refl _), Nat.le_refl _⟩
  rw [Tot.outs_zero]
  simpa using r1
 have HFill := Lib.hid hfill
 have HXK := Lib.hid hxk
 have HYK := Lib.hid hyk
 have HXS := Lib.hid hxs
 have HYS := Lib.hid hys
 have ew : IntKind.i64.wrap ((x.length : Int) + (y.length : Int)) = (x.length : Int) + (y.length : Int) := IntWalk.i64_in _ (by omega)
 generalize hMM : w.heap.size = M at *
 clear hfill hxk hyk hxs hys hx hy hxt hxb hyt hyb
 go_enter Tryz.func98, Tryz.ntmps98
 go_wp2_with (at_make; go_must (refine wpM (bytes := 8) (z := .int .i64 0) Tryz.underlying23 (by kernel_rfl) rfl rfl _ _ rfl m rfl rfl rfl rfl (by omega) (by decide) ?_))
 intro w1 r1 o1 _
 have hF0 := HFill.out w1 r1 o1
 have HF0 := Lib.hid hF0
 clear hF0 HFill r1 o1
 go_wp2_with fail
 go_loopw [29] (fun v wr => ∃ (k : Nat) (gt' : Tag) (hp n : Nat) (fl' : Bool), v = .int .i64 k ∧ k ≤ m ∧ Fill w gt gb c bt bb cap n0 lim fl B M m k wr gt' hp n fl') (fun v _ => m - (intOf v).toNat)
 case atStart => exact ⟨0, gt, hp, n0, fl, rfl, Nat.zero_le _, HF0.out⟩
 case round =>
  obtain ⟨k, gt', hp', n, fl', rfl, hk, hF⟩ := hrel
  clear HF0
  by_cases ck : k < m
  ·obtain ⟨V, hV⟩ := hF.at_.tab
   have q0 : wr.cell? ⟨c, 0, none⟩ = some (.pointer (some ⟨bt, 0, none⟩)) := by rw [cell_block hF.at_.blk]; rfl
   have hnn := hF.hn
   have hff := hF.hfl
   by_cases cn : n < lim
   ·have hH := Help_in hV hF.hpn cn
    have HH := Lib.hid hH
    have hstep := fun w2 (T : TabTo wr gt' bt _ w2) => hF.step ck (z := (n : Int) + 1) (n2 := n + 1) (hp2 := n) (fl2 := fl') (by omega) (by omega) (by rw [hff, decide_eq_false (by omega), decide_eq_false (by omega)]) (by rw [if_pos (by omega)]; omega) T
    have HS := Lib.hid hstep
    have hpv := hF.hpn
    clear hH hstep hV hF hnn hff
    go_wp2_with fail
    refine HH.out.mono ?_
    rintro e w2 ⟨rfl, hT⟩
    obtain ⟨gt2, hF2, p1, p2⟩ := HS.out w2 hT
    have HF2 := Lib.hid hF2
    generalize (Tot.outs n0 lim m k).getD k 0 = old at *
    clear hF2 HH HS hT
    go_wp2_with fail
    go_roundw
    case rel => exact ⟨k + 1, gt2, n, n + 1, fl', by go_num, by omega, HF2.out⟩
    case measure => simp [intOf]; omega
   ·have hH := Help_out hV hF.hpn (by omega)
    have HH := Lib.hid hH
    have hstep := fun w2 (T : TabTo wr gt' bt _ w2) => hF.step ck (z := 0) (n2 := n) (hp2 := n) (fl2 := true) (by omega) (by omega) (by rw [decide_eq_true (by omega)]; simp) (by rw [if_neg (by omega)]) T
    have HS := Lib.hid hstep
    clear hH hstep hV hF hnn hff
    go_wp2_with fail
    refine HH.out.mono ?_
    rintro e w2 ⟨rfl, hT⟩
    obtain ⟨gt2, hF2, p1, p2⟩ := HS.out w2 hT
    have HF2 := Lib.hid hF2
    generalize (Tot.outs n0 lim m k).getD k 0 = old at *
    clear hF2 HH HS hT
    go_wp2_with fail
    go_roundw
    case rel => exact ⟨k + 1, gt2, n, n, true, by go_num, by omega, HF2.out⟩
    case measure => simp [intOf]; omega
  ·obtain rfl : m = k := by omega
   have hrow := hF.row
   have hol := Tot.outs_len n0 lim m m
   by_cases cf : n0 + m ≤ lim
   ·have e1 : n = n0 + m := by have := hF.hn; omega
    have e2 : fl' = fl := by rw [hF.hfl, decide_eq_false (by omega)]; simp
    subst e1 e2
    rw [Tot.outs_all cf] at hrow
    have hnr : ∀ z ∈ Tot.nums n0 m, 1 ≤ z ∧ z ≤ 70000 := by
     intro z hz
     obtain ⟨i, hi, he⟩ := List.mem_map.1 hz
     have := List.mem_range.1 hi
     omega
    have hnl := Tot.nums_len n0 m
    have hIo : ∀ W : World, W.ownsRow 0 3 1 (.slice (some ⟨M, 0, none⟩) m m) m ((Tot.nums n0 m).map cI) → Ints W (.slice (some ⟨M, 0, none⟩) m m) (Tot.nums n0 m) := fun W h => Ints.of_own (by rw [hnl]; exact h) (fun z hz => by have := hnr z hz; unfold InI64; omega)
    have hC := Contains_any (hIo wr hrow) 0 false (Tot.nums_not n0 m)
    have hM0 : Mrg w gt gb c bt bb cap (Tot.hT (n0 + m) lim hp' fl') gt' M m (Tot.nums n0 m) wr gb (Tot.adds B (Tot.allC x y (Tot.nums n0 m) m 0)) := ⟨hF.at_, Agree.refl _ _, hF.only, hrow, hF.mb⟩
    have hag := hF.ag
    have hmt := hF.mt
    have hhp' := hF.hpn
    have HC := Lib.hid hC
    have HM0 := Lib.hid hM0
    have HNR := Lib.hid hnr
    have HIo := Lib.hid hIo
    clear hC hM0 hF hrow hnr hIo hol
    obtain ⟨xb, xo, rfl, -, -⟩ := (HXK.out w (Only.refl _ _)).cells _ _ _ rfl (by omega)
    obtain ⟨yb, yo, rfl, -, -⟩ := (HYK.out w (Only.refl _ _)).cells _ _ _ rfl (by omega)
    generalize hout : Tot.nums n0 m = out at *
    have HOut := Lib.hid hout
    clear hout
    go_wp2_with fail
    refine HC.out.mono ?_
    rintro e w2 ⟨rfl, rfl⟩
    clear HC
    go_wp2_with fail
    go_loopw [46] (fun v wr => ∃ (i : Nat) (gb' : Tag), v = .int .i64 i ∧ i ≤ x.length + 1 ∧ Mrg w gt gb c bt bb cap (Tot.hT (n0 + m) lim hp' fl') gt' M m out wr gb' (Tot.adds B (Tot.allC x y out m i))) (fun v _ => x.length + 1 - (intOf v).toNat)
    case atStart => exact ⟨0, gb, rfl, Nat.zero_le _, HM0.out⟩
    case round =>
     obtain ⟨i, gb1, rfl, hi, hMi⟩ := hrel
     clear HM0
     by_cases ci : i < x.length + 1
     ·have ci' : (i : Int) < (x.length : Int) + 1 := by omega
      have HMi := Lib.hid hMi
      clear hMi
      go_wp2_with fail
      go_loopw [52] (fun v wr => ∃ (j : Nat) (gb' : Tag), v = .int .i64 j ∧ j ≤ y.length + 1 ∧ Mrg w gt gb c bt bb cap (Tot.hT (n0 + m) lim hp' fl') gt' M m out wr gb' (Tot.adds B (Tot.allC x y out m i ++ Tot.rowC x y out m i j))) (fun v _ => y.length + 1 - (intOf v).toNat)
      case atStart => exact ⟨0, gb1, rfl, Nat.zero_le _, by have := HMi.out; simpa [Tot.rowC] using this⟩
      case round =>
       obtain ⟨j, gb2, rfl, hj, hMj⟩ := hrel
       clear HMi
       by_cases cj : j < y.length + 1
       ·have ewij : IntKind.i64.wrap ((i : Int) + (j : Int)) = (i : Int) + (j : Int) := IntWalk.i64_in _ (by omega)
        by_cases ci0 : i = 0
        ·by_cases cj0 : j = 0
         ·have HCi0 := Lib.hid ci0
          have dI0 : ¬ (0 : Int) < (i : Int) := by omega
          have dI1 : (i : Int) < (x.length : Int) := by omega
          have dI2 : i < x.length := by omega
          have HCj0 := Lib.hid cj0
          have dJ0 : ¬ (0 : Int) < (j : Int) := by omega
          have dJ1 : (j : Int) < (y.length : Int) := by omega
          have dJ2 : j < y.length := by omega
          have hij : min ((i : Int) + (j : Int)) (m : Int) = 0 := by omega
          have hup : Tot.upC x y out m i j = [] := by simp only [Tot.upC]; rw [if_neg (by omega)]
          have HUp := Lib.hid hup
          have ce : i + j < m := by omega
          clear hup ci0 cj0
          have ceI : (i : Int) + (j : Int) < (m : Int) := by omega
          have qd := (HIo.out wr hMj.row).cell (i := i + j) (by omega)
          rw [Nat.zero_add] at qd
          have dx := (HXK.out wr hMj.only).cell (i := i) (by omega)
          have dy := (HYK.out wr hMj.only).cell (i := j) (by omega)
          have hdn : Tot.dnC x y out m i j = [[-(out.getD (i + j) 0), x.getD i 0, y.getD j 0]] := by
           simp only [Tot.dnC]
           rw [if_pos (by omega), if_pos (by omega), if_pos (by omega)]
           rfl
          have tx : InI64 (x.getD i 0) := by have := HXS.out _ (getD_mem' 0 (xs := x) (k := i) (by omega)); unfold InI64; omega
          generalize x.getD i 0 = xw at *
          have ty : InI64 (y.getD j 0) := by have := HYS.out _ (getD_mem' 0 (xs := y) (k := j) (by omega)); unfold InI64; omega
          generalize y.getD j 0 = yw at *
          have sd := HNR.out _ (getD_mem' 0 (xs := out) (k := i + j) (by omega))
          generalize out.getD (i + j) 0 = d at *
          obtain ⟨nd, hnd⟩ : ∃ nd, nd = -d := ⟨_, rfl⟩
          rw [← hnd] at hdn
          have end_ : IntKind.i64.wrap (-d) = nd := by rw [hnd]; exact IntWalk.i64_in _ (by omega)
          have snd : InI64 nd := by unfold InI64; omega
          clear hnd sd
          have HDn := Lib.hid hdn
          have HM4 := Lib.hid hMj
          obtain ⟨U4, hU4⟩ := hMj.at_.bld
          have HU4 := Lib.hid hU4
          have qb : wr.cell? ⟨c, 1, none⟩ = some (.pointer (some ⟨bb, 0, none⟩)) := by rw [cell_block hMj.at_.blk]; rfl
          clear hdn hMj hU4
          have S0 := RepAt.lit wr nd
          have al1 : ∀ o, Only (fun _ => False) wr (wr.alloc o) := fun o => (Only.refl _ _).alloc o
          have dx' := fun o => cell_keep dx (al1 o) (fun f => f)
          have dy' := fun o => cell_keep dy (al1 o) (fun f => f)
          have qb' := fun o => cell_keep qb (al1 o) (fun f => f)
          clear al1
          go_wp2_with (at_builtin; go_must (refine wpA1 (u := .int .i64 xw) slInt rfl (.tmp 113) (.tmp 118) rfl rfl rfl (cell_newE _ _ _ _ (by simp)) rfl (own_only S0.own ((Only.refl (fun _ => False) _).alloc _) (fun _ _ f => f)) (by simp) (by decide) ?_))
          intro vS1 wS1 s1 s2 s3
          have S1 := S0.snoc (by simp) s1 s2 s3
          clear s1 s2 s3
          have qb1 := cell_keep qb S1.only (fun f => f)
          have dy1 := cell_keep dy S1.only (fun f => f)
          go_wp2_with (at_builtin; go_must (refine wpA1 (u := .int .i64 yw) slInt rfl (.tmp 124) (.tmp 129) rfl rfl rfl (cell_newE _ _ _ _ (by simp)) rfl (own_only S1.own ((Only.refl (fun _ => False) _).alloc _) (fun _ _ f => f)) (by simp) (by decide) ?_))
          intro vS2 wS2 s1 s2 s3
          have S2 := S1.snoc (by simp) s1 s2 s3
          clear s1 s2 s3
          have qb2 := cell_keep qb S2.only (fun f => f)
          have I2 := Ints.of_own S2.own (by simp; exact ⟨snd, tx, ty⟩)
          have hAdd := Add_any (HU4.out.only0 S2.only) I2 (by simp)
          have HAdd := Lib.hid hAdd
          have hSO := S2.only
          clear hAdd I2 S0 S1 S2
          go_wp2_with fail
          refine HAdd.out.mono ?_
          rintro e wd ⟨rfl, hB⟩
          obtain ⟨gb5, hM5⟩ := HM4.out.add hag hSO hB
          have hfin := hM5
          have HFin := Lib.hid hfin
          clear hB HAdd HM4 HU4 hSO hM5 hfin
          go_wp2_with fail
          go_roundw
          case rel => exact ⟨j + 1, gb5, by go_num, by omega, by rw [Tot.rowC_succ, ← List.append_assoc, Tot.adds_app, Tot.cellC, HUp.out, HDn.out]; exact HFin.out⟩
          case measure => simp [intOf]; omega
         ·have HCi0 := Lib.hid ci0
          have dI0 : ¬ (0 : Int) < (i : Int) := by omega
          have dI1 : (i : Int) < (x.length : Int) := by omega
          have dI2 : i < x.length := by omega
          have dJ0 : (0 : Int) < (j : Int) := by omega
          obtain ⟨k1, hk1⟩ : ∃ k1, min (i + j) m = k1 + 1 := ⟨min (i + j) m - 1, by omega⟩
          have hkk : min ((i : Int) + (j : Int)) (m : Int) = (k1 : Int) + 1 := by omega
          have k1b : k1 < m := by omega
          have k1c : (k1 : Int) < (m : Int) := by omega
          have qa := (HIo.out wr hMj.row).cell (i := k1) (by omega)
          rw [Nat.zero_add] at qa
          have eik : IntKind.i64.wrap (k1 : Int) = (k1 : Int) := IntWalk.i64_in _ (by omega)
          obtain ⟨j1, hj1⟩ : ∃ j1, j = j1 + 1 := ⟨j - 1, by omega⟩
          have j1b : j1 < y.length := by omega
          have qy := (HYK.out wr hMj.only).cell (i := j1) (by omega)
          have ej1 : IntKind.i64.wrap ((j : Int) - 1) = (j1 : Int) := by rw [IntWalk.i64_in _ (by omega)]; omega
          have hup : Tot.upC x y out m i j = [[out.getD k1 0, -(y.getD j1 0)]] := by
           simp only [Tot.upC, hk1]
           simp [HCi0.out, hj1]
          have sy := HYS.out _ (getD_mem' 0 j1b)
          generalize y.getD j1 0 = yv at *
          obtain ⟨ny, hny⟩ : ∃ ny, ny = -yv := ⟨_, rfl⟩
          rw [← hny] at hup
          have eny : IntKind.i64.wrap (-yv) = ny := by rw [hny]; exact IntWalk.i64_in _ (by omega)
          have sny : InI64 ny := by unfold InI64; omega
          clear hny sy
          have sa : InI64 (out.getD k1 0) := by have := HNR.out _ (getD_mem' 0 (xs := out) (k := k1) (by omega)); unfold InI64; omega
          generalize out.getD k1 0 = a at *
          have HUp := Lib.hid hup
          have HMj := Lib.hid hMj
          obtain ⟨U, hU⟩ := hMj.at_.bld
          have HU := Lib.hid hU
          have qb : wr.cell? ⟨c, 1, none⟩ = some (.pointer (some ⟨bb, 0, none⟩)) := by rw [cell_block hMj.at_.blk]; rfl
          have HK1 := Lib.hid hk1
          have HJ1 := Lib.hid hj1
          clear ci0 cj0 hup hMj hU hk1 hj1
          have R0 := RepAt.lit wr a
          have al0 : ∀ o, Only (fun _ => False) wr (wr.alloc o) := fun o => (Only.refl _ _).alloc o
          have qy' := fun o => cell_keep qy (al0 o) (fun f => f)
          have qb' := fun o => cell_keep qb (al0 o) (fun f => f)
          clear al0
          go_wp2_with (at_builtin; go_must (refine wpA1 (u := .int .i64 ny) slInt rfl (.tmp 81) (.tmp 88) rfl rfl rfl (cell_newE _ _ _ _ (by simp)) rfl (own_only R0.own ((Only.refl (fun _ => False) _).alloc _) (fun _ _ f => f)) (by simp) (by decide) ?_))
          intro vR1 wR1 s1 s2 s3
          have R1 := R0.snoc (by simp) s1 s2 s3
          clear s1 s2 s3
          have qb2 := cell_keep qb R1.only (fun f => f)
          have I1 := Ints.of_own R1.own (by simp; exact ⟨sa, sny⟩)
          have hAdd := Add_any (HU.out.only0 R1.only) I1 (by simp)
          have HAdd := Lib.hid hAdd
          have hRO := R1.only
          clear hAdd I1 R0 R1
          go_wp2_with fail
          refine HAdd.out.mono ?_
          rintro e wu ⟨rfl, hB⟩
          obtain ⟨gb3, hM3⟩ := HMj.out.add hag hRO hB
          clear hB HAdd HMj HU hRO qa qb qb' qy qy' ej1 eny qb2
          by_cases ce : i + j < m
          ·by_cases cy : j < y.length
           ·have cyI : (j : Int) < (y.length : Int) := by omega
            have ceI : (i : Int) + (j : Int) < (m : Int) := by omega
            have qd := (HIo.out wu hM3.row).cell (i := i + j) (by omega)
            rw [Nat.zero_add] at qd
            have dx := (HXK.out wu hM3.only).cell (i := i) (by omega)
            have dy := (HYK.out wu hM3.only).cell (i := j) (by omega)
            have hdn : Tot.dnC x y out m i j = [[-(out.getD (i + j) 0), x.getD i 0, y.getD j 0]] := by
             simp only [Tot.dnC]
             rw [if_pos (by omega), if_pos (by omega), if_pos (by omega)]
             rfl
            have tx : InI64 (x.getD i 0) := by have := HXS.out _ (getD_mem' 0 (xs := x) (k := i) (by omega)); unfold InI64; omega
            generalize x.getD i 0 = xw at *
            have ty : InI64 (y.getD j 0) := by have := HYS.out _ (getD_mem' 0 (xs := y) (k := j) (by omega)); unfold InI64; omega
            generalize y.getD j 0 = yw at *
            have sd := HNR.out _ (getD_mem' 0 (xs := out) (k := i + j) (by omega))
            generalize out.getD (i + j) 0 = d at *
            obtain ⟨nd, hnd⟩ : ∃ nd, nd = -d := ⟨_, rfl⟩
            rw [← hnd] at hdn
            have end_ : IntKind.i64.wrap (-d) = nd := by rw [hnd]; exact IntWalk.i64_in _ (by omega)
            have snd : InI64 nd := by unfold InI64; omega
            clear hnd sd
            have HDn := Lib.hid hdn
            have HM4 := Lib.hid hM3
            obtain ⟨U4, hU4⟩ := hM3.at_.bld
            have HU4 := Lib.hid hU4
            have qb : wu.cell? ⟨c, 1, none⟩ = some (.pointer (some ⟨bb, 0, none⟩)) := by rw [cell_block hM3.at_.blk]; rfl
            clear hdn hM3 hU4
            have S0 := RepAt.lit wu nd
            have al1 : ∀ o, Only (fun _ => False) wu (wu.alloc o) := fun o => (Only.refl _ _).alloc o
            have dx' := fun o => cell_keep dx (al1 o) (fun f => f)
            have dy' := fun o => cell_keep dy (al1 o) (fun f => f)
            have qb' := fun o => cell_keep qb (al1 o) (fun f => f)
            clear al1
            go_wp2_with (at_builtin; go_must (refine wpA1 (u := .int .i64 xw) slInt rfl (.tmp 113) (.tmp 118) rfl rfl rfl (cell_newE _ _ _ _ (by simp)) rfl (own_only S0.own ((Only.refl (fun _ => False) _).alloc _) (fun _ _ f => f)) (by simp) (by decide) ?_))
            intro vS1 wS1 s1 s2 s3
            have S1 := S0.snoc (by simp) s1 s2 s3
            clear s1 s2 s3
            have qb1 := cell_keep qb S1.only (fun f => f)
            have dy1 := cell_keep dy S1.only (fun f => f)
            go_wp2_with (at_builtin; go_must (refine wpA1 (u := .int .i64 yw) slInt rfl (.tmp 124) (.tmp 129) rfl rfl rfl (cell_newE _ _ _ _ (by simp)) rfl (own_only S1.own ((Only.refl (fun _ => False) _).alloc _) (fun _ _ f => f)) (by simp) (by decide) ?_))
            intro vS2 wS2 s1 s2 s3
            have S2 := S1.snoc (by simp) s1 s2 s3
            clear s1 s2 s3
            have qb2 := cell_keep qb S2.only (fun f => f)
            have I2 := Ints.of_own S2.own (by simp; exact ⟨snd, tx, ty⟩)
            have hAdd := Add_any (HU4.out.only0 S2.only) I2 (by simp)
            have HAdd := Lib.hid hAdd
            have hSO := S2.only
            clear hAdd I2 S0 S1 S2
            go_wp2_with fail
            refine HAdd.out.mono ?_
            rintro e wd ⟨rfl, hB⟩
            obtain ⟨gb5, hM5⟩ := HM4.out.add hag hSO hB
            have hfin := hM5
            have HFin := Lib.hid hfin
            clear hB HAdd HM4 HU4 hSO hM5 hfin
            go_wp2_with fail
            go_roundw
            case rel => exact ⟨j + 1, gb5, by go_num, by omega, by rw [Tot.rowC_succ, ← List.append_assoc, Tot.adds_app, Tot.cellC, HUp.out, HDn.out]; exact HFin.out⟩
            case measure => simp [intOf]; omega
           ·have cyI : ¬ (j : Int) < (y.length : Int) := by omega
            have ceI : (i : Int) + (j : Int) < (m : Int) := by omega
            have qd := (HIo.out wu hM3.row).cell (i := i + j) (by omega)
            rw [Nat.zero_add] at qd
            have dx := (HXK.out wu hM3.only).cell (i := i) (by omega)
            have hdn : Tot.dnC x y out m i j = [[-(out.getD (i + j) 0), x.getD i 0]] := by
             simp only [Tot.dnC]
             rw [if_pos (by omega), if_pos (by omega), if_neg (by omega)]
             rfl
            have tx : InI64 (x.getD i 0) := by have := HXS.out _ (getD_mem' 0 (xs := x) (k := i) (by omega)); unfold InI64; omega
            generalize x.getD i 0 = xw at *
            have sd := HNR.out _ (getD_mem' 0 (xs := out) (k := i + j) (by omega))
            generalize out.getD (i + j) 0 = d at *
            obtain ⟨nd, hnd⟩ : ∃ nd, nd = -d := ⟨_, rfl⟩
            rw [← hnd] at hdn
            have end_ : IntKind.i64.wrap (-d) = nd := by rw [hnd]; exact IntWalk.i64_in _ (by omega)
            have snd : InI64 nd := by unfold InI64; omega
            clear hnd sd
            have HDn := Lib.hid hdn
            have HM4 := Lib.hid hM3
            obtain ⟨U4, hU4⟩ := hM3.at_.bld
            have HU4 := Lib.hid hU4
            have qb : wu.cell? ⟨c, 1, none⟩ = some (.pointer (some ⟨bb, 0, none⟩)) := by rw [cell_block hM3.at_.blk]; rfl
            clear hdn hM3 hU4
            have S0 := RepAt.lit wu nd
            have al1 : ∀ o, Only (fun _ => False) wu (wu.alloc o) := fun o => (Only.refl _ _).alloc o
            have dx' := fun o => cell_keep dx (al1 o) (fun f => f)
            have qb' := fun o => cell_keep qb (al1 o) (fun f => f)
            clear al1
            go_wp2_with (at_builtin; go_must (refine wpA1 (u := .int .i64 xw) slInt rfl (.tmp 113) (.tmp 118) rfl rfl rfl (cell_newE _ _ _ _ (by simp)) rfl (own_only S0.own ((Only.refl (fun _ => False) _).alloc _) (fun _ _ f => f)) (by simp) (by decide) ?_))
            intro vS1 wS1 s1 s2 s3
            have S1 := S0.snoc (by simp) s1 s2 s3
            clear s1 s2 s3
            have qb1 := cell_keep qb S1.only (fun f => f)
            have I2 := Ints.of_own S1.own (by simp; exact ⟨snd, tx⟩)
            have hAdd := Add_any (HU4.out.only0 S1.only) I2 (by simp)
            have HAdd := Lib.hid hAdd
            have hSO := S1.only
            clear hAdd I2 S0 S1
            go_wp2_with fail
            refine HAdd.out.mono ?_
            rintro e wd ⟨rfl, hB⟩
            obtain ⟨gb5, hM5⟩ := HM4.out.add hag hSO hB
            have hfin := hM5
            have HFin := Lib.hid hfin
            clear hB HAdd HM4 HU4 hSO hM5 hfin
            go_wp2_with fail
            go_roundw
            case rel => exact ⟨j + 1, gb5, by go_num, by omega, by rw [Tot.rowC_succ, ← List.append_assoc, Tot.adds_app, Tot.cellC, HUp.out, HDn.out]; exact HFin.out⟩
            case measure => simp [intOf]; omega
          ·have ceI : ¬ (i : Int) + (j : Int) < (m : Int) := by omega
           have hdn : Tot.dnC x y out m i j = [] := by simp only [Tot.dnC]; rw [if_neg (by omega)]
           have HDn := Lib.hid hdn
           have HFin := Lib.hid hM3
           clear hdn hM3
           go_wp2_with fail
           go_roundw
           case rel => exact ⟨j + 1, gb3, by go_num, by omega, by rw [Tot.rowC_succ, ← List.append_assoc, Tot.adds_app, Tot.cellC, HUp.out, HDn.out]; exact HFin.out⟩
           case measure => simp [intOf]; omega
        ·by_cases cj0 : j = 0
         ·have dI0 : (0 : Int) < (i : Int) := by omega
          have HCj0 := Lib.hid cj0
          have dJ0 : ¬ (0 : Int) < (j : Int) := by omega
          have dJ1 : (j : Int) < (y.length : Int) := by omega
          have dJ2 : j < y.length := by omega
          obtain ⟨k1, hk1⟩ : ∃ k1, min (i + j) m = k1 + 1 := ⟨min (i + j) m - 1, by omega⟩
          have hkk : min ((i : Int) + (j : Int)) (m : Int) = (k1 : Int) + 1 := by omega
          have k1b : k1 < m := by omega
          have k1c : (k1 : Int) < (m : Int) := by omega
          have qa := (HIo.out wr hMj.row).cell (i := k1) (by omega)
          rw [Nat.zero_add] at qa
          have eik : IntKind.i64.wrap (k1 : Int) = (k1 : Int) := IntWalk.i64_in _ (by omega)
          obtain ⟨i1, hi1⟩ : ∃ i1, i = i1 + 1 := ⟨i - 1, by omega⟩
          have i1b : i1 < x.length := by omega
          have qx := (HXK.out wr hMj.only).cell (i := i1) (by omega)
          have ei1 : IntKind.i64.wrap ((i : Int) - 1) = (i1 : Int) := by rw [IntWalk.i64_in _ (by omega)]; omega
          have hup : Tot.upC x y out m i j = [[out.getD k1 0, -(x.getD i1 0)]] := by
           simp only [Tot.upC, hk1]
           simp [hi1, HCj0.out]
          have sx := HXS.out _ (getD_mem' 0 i1b)
          generalize x.getD i1 0 = xv at *
          obtain ⟨nx, hnx⟩ : ∃ nx, nx = -xv := ⟨_, rfl⟩
          rw [← hnx] at hup
          have enx : IntKind.i64.wrap (-xv) = nx := by rw [hnx]; exact IntWalk.i64_in _ (by omega)
          have snx : InI64 nx := by unfold InI64; omega
          clear hnx sx
          have sa : InI64 (out.getD k1 0) := by have := HNR.out _ (getD_mem' 0 (xs := out) (k := k1) (by omega)); unfold InI64; omega
          generalize out.getD k1 0 = a at *
          have HUp := Lib.hid hup
          have HMj := Lib.hid hMj
          obtain ⟨U, hU⟩ := hMj.at_.bld
          have HU := Lib.hid hU
          have qb : wr.cell? ⟨c, 1, none⟩ = some (.pointer (some ⟨bb, 0, none⟩)) := by rw [cell_block hMj.at_.blk]; rfl
          have HK1 := Lib.hid hk1
          have HI1 := Lib.hid hi1
          clear ci0 cj0 hup hMj hU hk1 hi1
          have R0 := RepAt.lit wr a
          have al0 : ∀ o, Only (fun _ => False) wr (wr.alloc o) := fun o => (Only.refl _ _).alloc o
          have qx' := fun o => cell_keep qx (al0 o) (fun f => f)
          have qb' := fun o => cell_keep qb (al0 o) (fun f => f)
          clear al0
          go_wp2_with (at_builtin; go_must (refine wpA1 (u := .int .i64 nx) slInt rfl (.tmp 70) (.tmp 77) rfl rfl rfl (cell_newE _ _ _ _ (by simp)) rfl (own_only R0.own ((Only.refl (fun _ => False) _).alloc _) (fun _ _ f => f)) (by simp) (by decide) ?_))
          intro vR1 wR1 s1 s2 s3
          have R1 := R0.snoc (by simp) s1 s2 s3
          clear s1 s2 s3
          have qb1 := cell_keep qb R1.only (fun f => f)
          have I1 := Ints.of_own R1.own (by simp; exact ⟨sa, snx⟩)
          have hAdd := Add_any (HU.out.only0 R1.only) I1 (by simp)
          have HAdd := Lib.hid hAdd
          have hRO := R1.only
          clear hAdd I1 R0 R1
          go_wp2_with fail
          refine HAdd.out.mono ?_
          rintro e wu ⟨rfl, hB⟩
          obtain ⟨gb3, hM3⟩ := HMj.out.add hag hRO hB
          clear hB HAdd HMj HU hRO qa qb qb' qx qx' ei1 enx qb1
          by_cases ce : i + j < m
          ·by_cases cx : i < x.length
           ·have cxI : (i : Int) < (x.length : Int) := by omega
            have ceI : (i : Int) + (j : Int) < (m : Int) := by omega
            have qd := (HIo.out wu hM3.row).cell (i := i + j) (by omega)
            rw [Nat.zero_add] at qd
            have dx := (HXK.out wu hM3.only).cell (i := i) (by omega)
            have dy := (HYK.out wu hM3.only).cell (i := j) (by omega)
            have hdn : Tot.dnC x y out m i j = [[-(out.getD (i + j) 0), x.getD i 0, y.getD j 0]] := by
             simp only [Tot.dnC]
             rw [if_pos (by omega), if_pos (by omega), if_pos (by omega)]
             rfl
            have tx : InI64 (x.getD i 0) := by have := HXS.out _ (getD_mem' 0 (xs := x) (k := i) (by omega)); unfold InI64; omega
            generalize x.getD i 0 = xw at *
            have ty : InI64 (y.getD j 0) := by have := HYS.out _ (getD_mem' 0 (xs := y) (k := j) (by omega)); unfold InI64; omega
            generalize y.getD j 0 = yw at *
            have sd := HNR.out _ (getD_mem' 0 (xs := out) (k := i + j) (by omega))
            generalize out.getD (i + j) 0 = d at *
            obtain ⟨nd, hnd⟩ : ∃ nd, nd = -d := ⟨_, rfl⟩
            rw [← hnd] at hdn
            have end_ : IntKind.i64.wrap (-d) = nd := by rw [hnd]; exact IntWalk.i64_in _ (by omega)
            have snd : InI64 nd := by unfold InI64; omega
            clear hnd sd
            have HDn := Lib.hid hdn
            have HM4 := Lib.hid hM3
            obtain ⟨U4, hU4⟩ := hM3.at_.bld
            have HU4 := Lib.hid hU4
            have qb : wu.cell? ⟨c, 1, none⟩ = some (.pointer (some ⟨bb, 0, none⟩)) := by rw [cell_block hM3.at_.blk]; rfl
            clear hdn hM3 hU4
            have S0 := RepAt.lit wu nd
            have al1 : ∀ o, Only (fun _ => False) wu (wu.alloc o) := fun o => (Only.refl _ _).alloc o
            have dx' := fun o => cell_keep dx (al1 o) (fun f => f)
            have dy' := fun o => cell_keep dy (al1 o) (fun f => f)
            have qb' := fun o => cell_keep qb (al1 o) (fun f => f)
            clear al1
            go_wp2_with (at_builtin; go_must (refine wpA1 (u := .int .i64 xw) slInt rfl (.tmp 113) (.tmp 118) rfl rfl rfl (cell_newE _ _ _ _ (by simp)) rfl (own_only S0.own ((Only.refl (fun _ => False) _).alloc _) (fun _ _ f => f)) (by simp) (by decide) ?_))
            intro vS1 wS1 s1 s2 s3
            have S1 := S0.snoc (by simp) s1 s2 s3
            clear s1 s2 s3
            have qb1 := cell_keep qb S1.only (fun f => f)
            have dy1 := cell_keep dy S1.only (fun f => f)
            go_wp2_with (at_builtin; go_must (refine wpA1 (u := .int .i64 yw) slInt rfl (.tmp 124) (.tmp 129) rfl rfl rfl (cell_newE _ _ _ _ (by simp)) rfl (own_only S1.own ((Only.refl (fun _ => False) _).alloc _) (fun _ _ f => f)) (by simp) (by decide) ?_))
            intro vS2 wS2 s1 s2 s3
            have S2 := S1.snoc (by simp) s1 s2 s3
            clear s1 s2 s3
            have qb2 := cell_keep qb S2.only (fun f => f)
            have I2 := Ints.of_own S2.own (by simp; exact ⟨snd, tx, ty⟩)
            have hAdd := Add_any (HU4.out.only0 S2.only) I2 (by simp)
            have HAdd := Lib.hid hAdd
            have hSO := S2.only
            clear hAdd I2 S0 S1 S2
            go_wp2_with fail
            refine HAdd.out.mono ?_
            rintro e wd ⟨rfl, hB⟩
            obtain ⟨gb5, hM5⟩ := HM4.out.add hag hSO hB
            have hfin := hM5
            have HFin := Lib.hid hfin
            clear hB HAdd HM4 HU4 hSO hM5 hfin
            go_wp2_with fail
            go_roundw
            case rel => exact ⟨j + 1, gb5, by go_num, by omega, by rw [Tot.rowC_succ, ← List.append_assoc, Tot.adds_app, Tot.cellC, HUp.out, HDn.out]; exact HFin.out⟩
            case measure => simp [intOf]; omega
           ·have cxI : ¬ (i : Int) < (x.length : Int) := by omega
            have ceI : (i : Int) + (j : Int) < (m : Int) := by omega
            have qd := (HIo.out wu hM3.row).cell (i := i + j) (by omega)
            rw [Nat.zero_add] at qd
            have dy := (HYK.out wu hM3.only).cell (i := j) (by omega)
            have hdn : Tot.dnC x y out m i j = [[-(out.getD (i + j) 0), y.getD j 0]] := by
             simp only [Tot.dnC]
             rw [if_pos (by omega), if_neg (by omega), if_pos (by omega)]
             rfl
            have ty : InI64 (y.getD j 0) := by have := HYS.out _ (getD_mem' 0 (xs := y) (k := j) (by omega)); unfold InI64; omega
            generalize y.getD j 0 = yw at *
            have sd := HNR.out _ (getD_mem' 0 (xs := out) (k := i + j) (by omega))
            generalize out.getD (i + j) 0 = d at *
            obtain ⟨nd, hnd⟩ : ∃ nd, nd = -d := ⟨_, rfl⟩
            rw [← hnd] at hdn
            have end_ : IntKind.i64.wrap (-d) = nd := by rw [hnd]; exact IntWalk.i64_in _ (by omega)
            have snd : InI64 nd := by unfold InI64; omega
            clear hnd sd
            have HDn := Lib.hid hdn
            have HM4 := Lib.hid hM3
            obtain ⟨U4, hU4⟩ := hM3.at_.bld
            have HU4 := Lib.hid hU4
            have qb : wu.cell? ⟨c, 1, none⟩ = some (.pointer (some ⟨bb, 0, none⟩)) := by rw [cell_block hM3.at_.blk]; rfl
            clear hdn hM3 hU4
            have S0 := RepAt.lit wu nd
            have al1 : ∀ o, Only (fun _ => False) wu (wu.alloc o) := fun o => (Only.refl _ _).alloc o
            have dy' := fun o => cell_keep dy (al1 o) (fun f => f)
            have qb' := fun o => cell_keep qb (al1 o) (fun f => f)
            clear al1
            go_wp2_with (at_builtin; go_must (refine wpA1 (u := .int .i64 yw) slInt rfl (.tmp 124) (.tmp 129) rfl rfl rfl (cell_newE _ _ _ _ (by simp)) rfl (own_only S0.own ((Only.refl (fun _ => False) _).alloc _) (fun _ _ f => f)) (by simp) (by decide) ?_))
            intro vS1 wS1 s1 s2 s3
            have S1 := S0.snoc (by simp) s1 s2 s3
            clear s1 s2 s3
            have qb2 := cell_keep qb S1.only (fun f => f)
            have I2 := Ints.of_own S1.own (by simp; exact ⟨snd, ty⟩)
            have hAdd := Add_any (HU4.out.only0 S1.only) I2 (by simp)
            have HAdd := Lib.hid hAdd
            have hSO := S1.only
            clear hAdd I2 S0 S1
            go_wp2_with fail
            refine HAdd.out.mono ?_
            rintro e wd ⟨rfl, hB⟩
            obtain ⟨gb5, hM5⟩ := HM4.out.add hag hSO hB
            have hfin := hM5
            have HFin := Lib.hid hfin
            clear hB HAdd HM4 HU4 hSO hM5 hfin
            go_wp2_with fail
            go_roundw
            case rel => exact ⟨j + 1, gb5, by go_num, by omega, by rw [Tot.rowC_succ, ← List.append_assoc, Tot.adds_app, Tot.cellC, HUp.out, HDn.out]; exact HFin.out⟩
            case measure => simp [intOf]; omega
          ·have ceI : ¬ (i : Int) + (j : Int) < (m : Int) := by omega
           have hdn : Tot.dnC x y out m i j = [] := by simp only [Tot.dnC]; rw [if_neg (by omega)]
           have HDn := Lib.hid hdn
           have HFin := Lib.hid hM3
           clear hdn hM3
           go_wp2_with fail
           go_roundw
           case rel => exact ⟨j + 1, gb3, by go_num, by omega, by rw [Tot.rowC_succ, ← List.append_assoc, Tot.adds_app, Tot.cellC, HUp.out, HDn.out]; exact HFin.out⟩
           case measure => simp [intOf]; omega
         ·have dI0 : (0 : Int) < (i : Int) := by omega
          have dJ0 : (0 : Int) < (j : Int) := by omega
          obtain ⟨k1, hk1⟩ : ∃ k1, min (i + j) m = k1 + 1 := ⟨min (i + j) m - 1, by omega⟩
          have hkk : min ((i : Int) + (j : Int)) (m : Int) = (k1 : Int) + 1 := by omega
          have k1b : k1 < m := by omega
          have k1c : (k1 : Int) < (m : Int) := by omega
          have qa := (HIo.out wr hMj.row).cell (i := k1) (by omega)
          rw [Nat.zero_add] at qa
          have eik : IntKind.i64.wrap (k1 : Int) = (k1 : Int) := IntWalk.i64_in _ (by omega)
          obtain ⟨i1, hi1⟩ : ∃ i1, i = i1 + 1 := ⟨i - 1, by omega⟩
          have i1b : i1 < x.length := by omega
          have qx := (HXK.out wr hMj.only).cell (i := i1) (by omega)
          have ei1 : IntKind.i64.wrap ((i : Int) - 1) = (i1 : Int) := by rw [IntWalk.i64_in _ (by omega)]; omega
          obtain ⟨j1, hj1⟩ : ∃ j1, j = j1 + 1 := ⟨j - 1, by omega⟩
          have j1b : j1 < y.length := by omega
          have qy := (HYK.out wr hMj.only).cell (i := j1) (by omega)
          have ej1 : IntKind.i64.wrap ((j : Int) - 1) = (j1 : Int) := by rw [IntWalk.i64_in _ (by omega)]; omega
          have hup : Tot.upC x y out m i j = [[out.getD k1 0, -(x.getD i1 0), -(y.getD j1 0)]] := by
           simp only [Tot.upC, hk1]
           simp [hi1, hj1]
          have sx := HXS.out _ (getD_mem' 0 i1b)
          generalize x.getD i1 0 = xv at *
          obtain ⟨nx, hnx⟩ : ∃ nx, nx = -xv := ⟨_, rfl⟩
          rw [← hnx] at hup
          have enx : IntKind.i64.wrap (-xv) = nx := by rw [hnx]; exact IntWalk.i64_in _ (by omega)
          have snx : InI64 nx := by unfold InI64; omega
          clear hnx sx
          have sy := HYS.out _ (getD_mem' 0 j1b)
          generalize y.getD j1 0 = yv at *
          obtain ⟨ny, hny⟩ : ∃ ny, ny = -yv := ⟨_, rfl⟩
          rw [← hny] at hup
          have eny : IntKind.i64.wrap (-yv) = ny := by rw [hny]; exact IntWalk.i64_in _ (by omega)
          have sny : InI64 ny := by unfold InI64; omega
          clear hny sy
          have sa : InI64 (out.getD k1 0) := by have := HNR.out _ (getD_mem' 0 (xs := out) (k := k1) (by omega)); unfold InI64; omega
          generalize out.getD k1 0 = a at *
          have HUp := Lib.hid hup
          have HMj := Lib.hid hMj
          obtain ⟨U, hU⟩ := hMj.at_.bld
          have HU := Lib.hid hU
          have qb : wr.cell? ⟨c, 1, none⟩ = some (.pointer (some ⟨bb, 0, none⟩)) := by rw [cell_block hMj.at_.blk]; rfl
          have HK1 := Lib.hid hk1
          have HI1 := Lib.hid hi1
          have HJ1 := Lib.hid hj1
          clear ci0 cj0 hup hMj hU hk1 hi1 hj1
          have R0 := RepAt.lit wr a
          have al0 : ∀ o, Only (fun _ => False) wr (wr.alloc o) := fun o => (Only.refl _ _).alloc o
          have qx' := fun o => cell_keep qx (al0 o) (fun f => f)
          have qy' := fun o => cell_keep qy (al0 o) (fun f => f)
          have qb' := fun o => cell_keep qb (al0 o) (fun f => f)
          clear al0
          go_wp2_with (at_builtin; go_must (refine wpA1 (u := .int .i64 nx) slInt rfl (.tmp 70) (.tmp 77) rfl rfl rfl (cell_newE _ _ _ _ (by simp)) rfl (own_only R0.own ((Only.refl (fun _ => False) _).alloc _) (fun _ _ f => f)) (by simp) (by decide) ?_))
          intro vR1 wR1 s1 s2 s3
          have R1 := R0.snoc (by simp) s1 s2 s3
          clear s1 s2 s3
          have qb1 := cell_keep qb R1.only (fun f => f)
          have qy1 := cell_keep qy R1.only (fun f => f)
          go_wp2_with (at_builtin; go_must (refine wpA1 (u := .int .i64 ny) slInt rfl (.tmp 81) (.tmp 88) rfl rfl rfl (cell_newE _ _ _ _ (by simp)) rfl (own_only R1.own ((Only.refl (fun _ => False) _).alloc _) (fun _ _ f => f)) (by simp) (by decide) ?_))
          intro vR2 wR2 s1 s2 s3
          have R2 := R1.snoc (by simp) s1 s2 s3
          clear s1 s2 s3
          have qb2 := cell_keep qb R2.only (fun f => f)
          have I1 := Ints.of_own R2.own (by simp; exact ⟨sa, snx, sny⟩)
          have hAdd := Add_any (HU.out.only0 R2.only) I1 (by simp)
          have HAdd := Lib.hid hAdd
          have hRO := R2.only
          clear hAdd I1 R0 R1 R2
          go_wp2_with fail
          refine HAdd.out.mono ?_
          rintro e wu ⟨rfl, hB⟩
          obtain ⟨gb3, hM3⟩ := HMj.out.add hag hRO hB
          clear hB HAdd HMj HU hRO qa qb qb' qx qx' ei1 enx qb1 qy qy' ej1 eny qb2 qy1
          by_cases ce : i + j < m
          ·by_cases cx : i < x.length
           ·have cxI : (i : Int) < (x.length : Int) := by omega
            by_cases cy : j < y.length
            ·have cyI : (j : Int) < (y.length : Int) := by omega
             have ceI : (i : Int) + (j : Int) < (m : Int) := by omega
             have qd := (HIo.out wu hM3.row).cell (i := i + j) (by omega)
             rw [Nat.zero_add] at qd
             have dx := (HXK.out wu hM3.only).cell (i := i) (by omega)
             have dy := (HYK.out wu hM3.only).cell (i := j) (by omega)
             have hdn : Tot.dnC x y out m i j = [[-(out.getD (i + j) 0), x.getD i 0, y.getD j 0]] := by
              simp only [Tot.dnC]
              rw [if_pos (by omega), if_pos (by omega), if_pos (by omega)]
              rfl
             have tx : InI64 (x.getD i 0) := by have := HXS.out _ (getD_mem' 0 (xs := x) (k := i) (by omega)); unfold InI64; omega
             generalize x.getD i 0 = xw at *
             have ty : InI64 (y.getD j 0) := by have := HYS.out _ (getD_mem' 0 (xs := y) (k := j) (by omega)); unfold InI64; omega
             generalize y.getD j 0 = yw at *
             have sd := HNR.out _ (getD_mem' 0 (xs := out) (k := i + j) (by omega))
             generalize out.getD (i + j) 0 = d at *
             obtain ⟨nd, hnd⟩ : ∃ nd, nd = -d := ⟨_, rfl⟩
             rw [← hnd] at hdn
             have end_ : IntKind.i64.wrap (-d) = nd := by rw [hnd]; exact IntWalk.i64_in _ (by omega)
             have snd : InI64 nd := by unfold InI64; omega
             clear hnd sd
             have HDn := Lib.hid hdn
             have HM4 := Lib.hid hM3
             obtain ⟨U4, hU4⟩ := hM3.at_.bld
             have HU4 := Lib.hid hU4
             have qb : wu.cell? ⟨c, 1, none⟩ = some (.pointer (some ⟨bb, 0, none⟩)) := by rw [cell_block hM3.at_.blk]; rfl
             clear hdn hM3 hU4
             have S0 := RepAt.lit wu nd
             have al1 : ∀ o, Only (fun _ => False) wu (wu.alloc o) := fun o => (Only.refl _ _).alloc o
             have dx' := fun o => cell_keep dx (al1 o) (fun f => f)
             have dy' := fun o => cell_keep dy (al1 o) (fun f => f)
             have qb' := fun o => cell_keep qb (al1 o) (fun f => f)
             clear al1
             go_wp2_with (at_builtin; go_must (refine wpA1 (u := .int .i64 xw) slInt rfl (.tmp 113) (.tmp 118) rfl rfl rfl (cell_newE _ _ _ _ (by simp)) rfl (own_only S0.own ((Only.refl (fun _ => False) _).alloc _) (fun _ _ f => f)) (by simp) (by decide) ?_))
             intro vS1 wS1 s1 s2 s3
             have S1 := S0.snoc (by simp) s1 s2 s3
             clear s1 s2 s3
             have qb1 := cell_keep qb S1.only (fun f => f)
             have dy1 := cell_keep dy S1.only (fun f => f)
             go_wp2_with (at_builtin; go_must (refine wpA1 (u := .int .i64 yw) slInt rfl (.tmp 124) (.tmp 129) rfl rfl rfl (cell_newE _ _ _ _ (by simp)) rfl (own_only S1.own ((Only.refl (fun _ => False) _).alloc _) (fun _ _ f => f)) (by simp) (by decide) ?_))
             intro vS2 wS2 s1 s2 s3
             have S2 := S1.snoc (by simp) s1 s2 s3
             clear s1 s2 s3
             have qb2 := cell_keep qb S2.only (fun f => f)
             have I2 := Ints.of_own S2.own (by simp; exact ⟨snd, tx, ty⟩)
             have hAdd := Add_any (HU4.out.only0 S2.only) I2 (by simp)
             have HAdd := Lib.hid hAdd
             have hSO := S2.only
             clear hAdd I2 S0 S1 S2
             go_wp2_with fail
             refine HAdd.out.mono ?_
             rintro e wd ⟨rfl, hB⟩
             obtain ⟨gb5, hM5⟩ := HM4.out.add hag hSO hB
             have hfin := hM5
             have HFin := Lib.hid hfin
             clear hB HAdd HM4 HU4 hSO hM5 hfin
             go_wp2_with fail
             go_roundw
             case rel => exact ⟨j + 1, gb5, by go_num, by omega, by rw [Tot.rowC_succ, ← List.append_assoc, Tot.adds_app, Tot.cellC, HUp.out, HDn.out]; exact HFin.out⟩
             case measure => simp [intOf]; omega
            ·have cyI : ¬ (j : Int) < (y.length : Int) := by omega
             have ceI : (i : Int) + (j : Int) < (m : Int) := by omega
             have qd := (HIo.out wu hM3.row).cell (i := i + j) (by omega)
             rw [Nat.zero_add] at qd
             have dx := (HXK.out wu hM3.only).cell (i := i) (by omega)
             have hdn : Tot.dnC x y out m i j = [[-(out.getD (i + j) 0), x.getD i 0]] := by
              simp only [Tot.dnC]
              rw [if_pos (by omega), if_pos (by omega), if_neg (by omega)]
              rfl
             have tx : InI64 (x.getD i 0) := by have := HXS.out _ (getD_mem' 0 (xs := x) (k := i) (by omega)); unfold InI64; omega
             generalize x.getD i 0 = xw at *
             have sd := HNR.out _ (getD_mem' 0 (xs := out) (k := i + j) (by omega))
             generalize out.getD (i + j) 0 = d at *
             obtain ⟨nd, hnd⟩ : ∃ nd, nd = -d := ⟨_, rfl⟩
             rw [← hnd] at hdn
             have end_ : IntKind.i64.wrap (-d) = nd := by rw [hnd]; exact IntWalk.i64_in _ (by omega)
             have snd : InI64 nd := by unfold InI64; omega
             clear hnd sd
             have HDn := Lib.hid hdn
             have HM4 := Lib.hid hM3
             obtain ⟨U4, hU4⟩ := hM3.at_.bld
             have HU4 := Lib.hid hU4
             have qb : wu.cell? ⟨c, 1, none⟩ = some (.pointer (some ⟨bb, 0, none⟩)) := by rw [cell_block hM3.at_.blk]; rfl
             clear hdn hM3 hU4
             have S0 := RepAt.lit wu nd
             have al1 : ∀ o, Only (fun _ => False) wu (wu.alloc o) := fun o => (Only.refl _ _).alloc o
             have dx' := fun o => cell_keep dx (al1 o) (fun f => f)
             have qb' := fun o => cell_keep qb (al1 o) (fun f => f)
             clear al1
             go_wp2_with (at_builtin; go_must (refine wpA1 (u := .int .i64 xw) slInt rfl (.tmp 113) (.tmp 118) rfl rfl rfl (cell_newE _ _ _ _ (by simp)) rfl (own_only S0.own ((Only.refl (fun _ => False) _).alloc _) (fun _ _ f => f)) (by simp) (by decide) ?_))
             intro vS1 wS1 s1 s2 s3
             have S1 := S0.snoc (by simp) s1 s2 s3
             clear s1 s2 s3
             have qb1 := cell_keep qb S1.only (fun f => f)
             have I2 := Ints.of_own S1.own (by simp; exact ⟨snd, tx⟩)
             have hAdd := Add_any (HU4.out.only0 S1.only) I2 (by simp)
             have HAdd := Lib.hid hAdd
             have hSO := S1.only
             clear hAdd I2 S0 S1
             go_wp2_with fail
             refine HAdd.out.mono ?_
             rintro e wd ⟨rfl, hB⟩
             obtain ⟨gb5, hM5⟩ := HM4.out.add hag hSO hB
             have hfin := hM5
             have HFin := Lib.hid hfin
             clear hB HAdd HM4 HU4 hSO hM5 hfin
             go_wp2_with fail
             go_roundw
             case rel => exact ⟨j + 1, gb5, by go_num, by omega, by rw [Tot.rowC_succ, ← List.append_assoc, Tot.adds_app, Tot.cellC, HUp.out, HDn.out]; exact HFin.out⟩
             case measure => simp [intOf]; omega
           ·have cxI : ¬ (i : Int) < (x.length : Int) := by omega
            have cy : j < y.length := by omega
            have cyI : (j : Int) < (y.length : Int) := by omega
            have ceI : (i : Int) + (j : Int) < (m : Int) := by omega
            have qd := (HIo.out wu hM3.row).cell (i := i + j) (by omega)
            rw [Nat.zero_add] at qd
            have dy := (HYK.out wu hM3.only).cell (i := j) (by omega)
            have hdn : Tot.dnC x y out m i j = [[-(out.getD (i + j) 0), y.getD j 0]] := by
             simp only [Tot.dnC]
             rw [if_pos (by omega), if_neg (by omega), if_pos (by omega)]
             rfl
            have ty : InI64 (y.getD j 0) := by have := HYS.out _ (getD_mem' 0 (xs := y) (k := j) (by omega)); unfold InI64; omega
            generalize y.getD j 0 = yw at *
            have sd := HNR.out _ (getD_mem' 0 (xs := out) (k := i + j) (by omega))
            generalize out.getD (i + j) 0 = d at *
            obtain ⟨nd, hnd⟩ : ∃ nd, nd = -d := ⟨_, rfl⟩
            rw [← hnd] at hdn
            have end_ : IntKind.i64.wrap (-d) = nd := by rw [hnd]; exact IntWalk.i64_in _ (by omega)
            have snd : InI64 nd := by unfold InI64; omega
            clear hnd sd
            have HDn := Lib.hid hdn
            have HM4 := Lib.hid hM3
            obtain ⟨U4, hU4⟩ := hM3.at_.bld
            have HU4 := Lib.hid hU4
            have qb : wu.cell? ⟨c, 1, none⟩ = some (.pointer (some ⟨bb, 0, none⟩)) := by rw [cell_block hM3.at_.blk]; rfl
            clear hdn hM3 hU4
            have S0 := RepAt.lit wu nd
            have al1 : ∀ o, Only (fun _ => False) wu (wu.alloc o) := fun o => (Only.refl _ _).alloc o
            have dy' := fun o => cell_keep dy (al1 o) (fun f => f)
            have qb' := fun o => cell_keep qb (al1 o) (fun f => f)
            clear al1
            go_wp2_with (at_builtin; go_must (refine wpA1 (u := .int .i64 yw) slInt rfl (.tmp 124) (.tmp 129) rfl rfl rfl (cell_newE _ _ _ _ (by simp)) rfl (own_only S0.own ((Only.refl (fun _ => False) _).alloc _) (fun _ _ f => f)) (by simp) (by decide) ?_))
            intro vS1 wS1 s1 s2 s3
            have S1 := S0.snoc (by simp) s1 s2 s3
            clear s1 s2 s3
            have qb2 := cell_keep qb S1.only (fun f => f)
            have I2 := Ints.of_own S1.own (by simp; exact ⟨snd, ty⟩)
            have hAdd := Add_any (HU4.out.only0 S1.only) I2 (by simp)
            have HAdd := Lib.hid hAdd
            have hSO := S1.only
            clear hAdd I2 S0 S1
            go_wp2_with fail
            refine HAdd.out.mono ?_
            rintro e wd ⟨rfl, hB⟩
            obtain ⟨gb5, hM5⟩ := HM4.out.add hag hSO hB
            have hfin := hM5
            have HFin := Lib.hid hfin
            clear hB HAdd HM4 HU4 hSO hM5 hfin
            go_wp2_with fail
            go_roundw
            case rel => exact ⟨j + 1, gb5, by go_num, by omega, by rw [Tot.rowC_succ, ← List.append_assoc, Tot.adds_app, Tot.cellC, HUp.out, HDn.out]; exact HFin.out⟩
            case measure => simp [intOf]; omega
          ·have ceI : ¬ (i : Int) + (j : Int) < (m : Int) := by omega
           have hdn : Tot.dnC x y out m i j = [] := by simp only [Tot.dnC]; rw [if_neg (by omega)]
           have HDn := Lib.hid hdn
           have HFin := Lib.hid hM3
           clear hdn hM3
           go_wp2_with fail
           go_roundw
           case rel => exact ⟨j + 1, gb3, by go_num, by omega, by rw [Tot.rowC_succ, ← List.append_assoc, Tot.adds_app, Tot.cellC, HUp.out, HDn.out]; exact HFin.out⟩
           case measure => simp [intOf]; omega
       ·have hj' : j = y.length + 1 := by omega
        rw [hj', ← Tot.allC_succ] at hMj
        have HMj := Lib.hid hMj
        clear hMj
        go_wp2_with fail
        go_roundw
        case rel => exact ⟨i + 1, gb2, by go_num, by omega, HMj.out⟩
        case measure => simp [intOf]; omega
     ·have hi' : i = x.length + 1 := by omega
      rw [hi'] at hMi
      have hfin : CtRes w gt gb c bt bb cap (n0 + m) lim fl' (Tot.adds B (Tot.allC x y out m (x.length + 1))) (.slice (some ⟨M, 0, none⟩) m m) out wr := by
       refine ⟨gt', gb1, hp', hhp', hMi.at_, hag, hMi.agb, hMi.only, HIo.out _ hMi.row, fun _ k hk => ?_, fun _ k hk => ?_, fun _ k hk => ?_⟩
       ·simp [Value.blk] at hk; subst hk; exact hmt
       ·simp [Value.blk] at hk; subst hk; exact hMi.mb
       ·simp [Value.blk] at hk; omega
      have HFin := Lib.hid hfin
      clear hfin hMi
      go_wp2_with fail
      go_ret
      exact ⟨_, rfl, by rw [HOut.out]; exact HFin.out⟩
   ·have hC := Contains_any (w := wr) (v := .slice (some ⟨M, 0, none⟩) m m) (xs := Tot.outs n0 lim m m) (Ints.of_own (by rw [hol]; exact hrow) (by intro z hz; obtain ⟨i, hi, he⟩ := List.mem_map.1 hz; have := List.mem_range.1 hi; unfold InI64; split at he <;> omega)) 0 true (Tot.outs_has (by omega) hn0)
    have hfin : CtRes w gt gb c bt bb cap lim lim true B (.slice none 0 0) [] wr := by
     refine ⟨gt', gb, hp', ?_, ?_, hF.ag, Agree.refl _ _, hF.only, Ints.nilI wr, fun h => by simp at h, fun h => by simp at h, fun h => by simp at h⟩
     ·have := hF.hpn; have := hF.hn; omega
     ·have h1 := hF.at_
      have e1 : n = lim := by have := hF.hn; omega
      have e2 : fl' = true := by rw [hF.hfl, decide_eq_true (by omega)]; simp
      rw [e1, e2] at h1; exact h1
    have HC := Lib.hid hC
    have HFin := Lib.hid hfin
    clear hC hfin hF hrow
    go_wp2_with fail
    refine HC.out.mono ?_
    rintro e w2 ⟨rfl, rfl⟩
    go_wp2_with fail
    go_ret
    exact ⟨_, rfl, HFin.out⟩
end
end Go.Proofs.YtjedgdamommgeaaGreat

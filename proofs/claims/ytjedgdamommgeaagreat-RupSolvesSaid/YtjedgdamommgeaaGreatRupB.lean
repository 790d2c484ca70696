/- Rup4 Rup5 Rup6, in one text. -/
import Derived.Test.YtjedgdamommgeaaGreatRupA
import Derived.Test.YtjedgdamommgeaaGreatRegs
import Derived.Test.YtjedgdamommgeaaGreatShelf2
set_option linter.unusedVariables false
namespace Go.Proofs.YtjedgdamommgeaaGreat
open Go.RowKit
attribute [local go_sem ↓] Go.wp_at_zero Go.wp_at_succ
theorem Row.keepB {w w2 : World} {g g2 : Tag} {t t0 : Nat × Nat} {e : TypeId} {v : Value} {xs : List Value} (hr : Row w g t e v xs) (o : Only (fun k => g k = t0) w w2) (ag : Agree w g g2) (hne : t ≠ t0) {p : Addr} (hp : g2 p.block ≠ t) (u : Value) :
  Row (w2.setCell p u) g2 t e v xs := Row.far (hr.keep o (fun k hk hF => hne (hk.symm.trans hF)) ag) hp u
theorem AllInts.keepB {w w2 : World} {g g2 : Tag} {us : List Value} {css : List (List Int)} (h : AllInts w us css) (ht : ∀ i, i < css.length → Tagged g (7, 0) (us.getD i nilS) (css.getD i [])) {t0 : Nat × Nat} (o : Only (fun k => g k = t0) w w2) (ag : Agree w g g2) (hne : (7, 0) ≠ t0)
  {p : Addr} (hp : g2 p.block ≠ (7, 0)) (u : Value) : AllInts (w2.setCell p u) us css ∧ ∀ i, i < css.length → Tagged g2 (7, 0) (us.getD i nilS) (css.getD i []) := by
 have h2 := h.keepT ht o (fun k hk hF => hne (hk.symm.trans hF))
 have ht2 : ∀ i, i < css.length → Tagged g2 (7, 0) (us.getD i nilS) (css.getD i []) := fun i hi => (ht i hi).agree (h.2 i hi) ag
 exact ⟨h2.keepT (F := fun k => k = p.block) ht2 (Only.setCell (Only.refl (fun k => k = p.block) w2) (p := p) (.inl rfl) _) (fun k hk hF => hp (by rw [← hF]; exact hk)), ht2⟩
section
variable {w : World} {g : Tag} {b : Nat} {V : RupV} {C : Rup.Chk}
theorem tb_ne {t : Nat × Nat} {g2 : Tag} (h : g2 b = (1, 0)) (ht : t.1 ≠ 1) : g2 b ≠ t := by
 intro e; rw [h] at e; rw [← e] at ht; exact ht rfl
theorem ChkAt.setC (H : ChkAt w g b V C) {w2 : World} {vc' : Value} {us' : List Value} {cls' : List (List Int)} {g2 : Tag} (ag : Agree w g g2) (fr : Fresh w2 g2) (o : Only (fun k => g k = (2, 0)) w w2) (hr : Row w2 g2 (2, 0) 23 vc' us')
  (hi : AllInts w2 us' cls') (ht : ∀ i, i < cls'.length → Tagged g2 (7, 0) (us'.getD i nilS) (cls'.getD i [])) : ChkAt (w2.setCell ⟨b, 1, none⟩ vc') g2 b { V with vc := vc', us := us' } { C with cls := cls' } := by
 have tb2 : g2 b = (1, 0) := (ag b (lt_block H.blk)).trans H.tb
 refine ⟨?_, tb2, Row.far hr (tb_ne tb2 (by decide)) _, ?_, ht, H.gn.keepB o ag (by decide) (tb_ne tb2 (by decide)) _, H.o.keepB o ag (by decide) (tb_ne tb2 (by decide)) _, H.ol, fun p hp => (H.oi p hp).keepB o ag (by simp) (tb_ne tb2 (by simp)) _,
  H.v.keepB o ag (by decide) (tb_ne tb2 (by decide)) _, H.s.keepB o ag (by decide) (tb_ne tb2 (by decide)) _, fr.more (by simp [World.setCell])⟩
 ·rw [set_block (only_block H.blk o (by rw [H.tb]; decide))]; rfl
 ·exact hi.keepT (F := fun k => k = b) ht (Only.setCell (Only.refl (fun k => k = b) w2) (p := ⟨b, 1, none⟩) (.inl rfl) _) (fun k hk hF => by rw [hF, tb2] at hk; simp at hk)
theorem ChkAt.setG (H : ChkAt w g b V C) {w2 : World} {vg' : Value} {gone' : List Bool} {g2 : Tag} (ag : Agree w g g2) (fr : Fresh w2 g2) (o : Only (fun k => g k = (3, 0)) w w2) (hr : Row w2 g2 (3, 0) 4 vg' (gone'.map Value.bool)) :
  ChkAt (w2.setCell ⟨b, 2, none⟩ vg') g2 b { V with vg := vg' } { C with gone := gone' } := by
 have tb2 : g2 b = (1, 0) := (ag b (lt_block H.blk)).trans H.tb
 have hc := H.ci.keepB H.ct o ag (by decide) (p := ⟨b, 2, none⟩) (tb_ne tb2 (by decide)) vg'
 refine ⟨?_, tb2, H.c.keepB o ag (by decide) (tb_ne tb2 (by decide)) _, hc.1, hc.2, Row.far hr (tb_ne tb2 (by decide)) _, H.o.keepB o ag (by decide) (tb_ne tb2 (by decide)) _, H.ol, fun p hp => (H.oi p hp).keepB o ag (by simp) (tb_ne tb2 (by simp)) _,
  H.v.keepB o ag (by decide) (tb_ne tb2 (by decide)) _, H.s.keepB o ag (by decide) (tb_ne tb2 (by decide)) _, fr.more (by simp [World.setCell])⟩
 rw [set_block (only_block H.blk o (by rw [H.tb]; decide))]; rfl
theorem getD_set_same {α : Type} {l : List α} {i : Nat} (h : i < l.length) (x d : α) : (l.set i x).getD i d = x := by
 simp [List.getD_eq_getElem?_getD, h]
theorem getD_set_other {α : Type} {l : List α} {i j : Nat} (h : i ≠ j) (x d : α) : (l.set i x).getD j d = l.getD j d := by
 simp [List.getD_eq_getElem?_getD, h]
theorem ChkAt.setO (H : ChkAt w g b V C) {w2 : World} {v' : Value} {p go_ no co : Nat} {zs : List Int} {g2 : Tag} (hp : p < 2 * C.n) (hvo : V.vo = .slice (some ⟨go_, 0, none⟩) no co) (ag : Agree w g g2) (fr : Fresh w2 g2) (o : Only (fun k => g k = (8, p)) w w2)
  (hr : Row w2 g2 (8, p) 3 v' (zs.map cI)) :
  ChkAt (w2.setCell ⟨go_, p, none⟩ v') g2 b { V with os := V.os.set p v' } { C with of := fun q => if q = p then zs else C.of q } := by
 have tb2 : g2 b = (1, 0) := (ag b (lt_block H.blk)).trans H.tb
 have ho := H.o
 rw [hvo] at ho
 have hlt : go_ < w.heap.size := own_lt ho.own rfl
 have hgo : g go_ = (4, 0) := ho.tg go_ rfl
 have tg2 : g2 go_ = (4, 0) := (ag go_ hlt).trans hgo
 have hne : ∀ {t : Nat × Nat}, t.1 ≠ 4 → g2 go_ ≠ t := fun {t} h e => by rw [tg2] at e; rw [← e] at h; exact h rfl
 have hc := H.ci.keepB H.ct o ag (by simp) (p := ⟨go_, p, none⟩) (hne (by decide)) v'
 have hnb : b ≠ go_ := by intro e; have := H.tb; rw [e, hgo] at this; simp at this
 refine ⟨?_, tb2, H.c.keepB o ag (by simp) (hne (by decide)) _, hc.1, hc.2, H.gn.keepB o ag (by simp) (hne (by decide)) _, ?_, by simpa using H.ol, fun q hq => ?_,
  H.v.keepB o ag (by simp) (hne (by decide)) _, H.s.keepB o ag (by simp) (hne (by decide)) _, fr.more (by simp [World.setCell])⟩
 ·rw [set_block_other (only_block H.blk o (by rw [H.tb]; simp)) hnb]
 ·have h1 := (ho.keep o (fun k hk hF => by rw [hk] at hF; simp at hF) ag).store p v'
  rw [← hvo] at h1
  exact h1
 ·by_cases e : q = p
  ·subst e
   simp only [if_true]
   rw [getD_set_same (by rw [H.ol]; exact hq)]
   exact Row.far hr (hne (by simp)) _
  ·simp only [if_neg e]
   rw [getD_set_other (fun h => e h.symm)]
   exact (H.oi q hq).keepB o ag (by simpa using e) (hne (by simp)) _
namespace Rup
def ofTo (C : Chk) (f : List Int) (j q : Nat) : List Int := C.of q ++ if (f.take j).any (fun l => place (-l) == q) then [(C.cls.length : Int)] else []
def Chk.add (C : Chk) (f : List Int) : Chk := { C with cls := C.cls ++ [f], gone := C.gone ++ [false], of := ofTo C f f.length }
theorem ofTo_zero (C : Chk) (f : List Int) : ofTo C f 0 = C.of := by
 funext q; simp [ofTo]
theorem ofTo_succ {C : Chk} {f : List Int} {n : Nat} (hf : Up.Cls n f) {j : Nat} (hj : j < f.length) : ofTo C f (j + 1) = fun q => if q = place (-(f.getD j 0)) then C.of (place (-(f.getD j 0))) ++ [(C.cls.length : Int)] else ofTo C f j q := by
 have e : f.take (j + 1) = f.take j ++ [f.getD j 0] := take_snocI f j hj
 have e2 : f.getD j 0 = f[j] := by simp [List.getD_eq_getElem?_getD, hj]
 funext q
 unfold ofTo
 rw [e, List.any_append]
 by_cases hq : q = place (-(f.getD j 0))
 ·rw [if_pos hq, if_pos (by simp [hq]), hq]
 ·rw [if_neg hq]
  have : ([f.getD j 0].any fun l => place (-l) == q) = false := by
   simp only [List.any_cons, List.any_nil, Bool.or_false, beq_eq_false_iff_ne]
   exact fun h => hq h.symm
  rw [this, Bool.or_false]
theorem ofTo_new {C : Chk} {f : List Int} {n : Nat} (hf : Up.Cls n f) {j : Nat} (hj : j < f.length) : ofTo C f j (place (-(f.getD j 0))) = C.of (place (-(f.getD j 0))) := by
 have e2 : f.getD j 0 = f[j] := by simp [List.getD_eq_getElem?_getD, hj]
 unfold ofTo
 rw [if_neg, List.append_nil]
 rw [List.any_eq_true]
 rintro ⟨l, hl, h⟩
 have hl0 := (hf.lit l (List.mem_of_mem_take hl)).1
 have hx0 := (hf.lit _ (getD_mem' 0 hj)).1
 have := place_inj (x := -l) (y := -(f.getD j 0)) (by omega) (by omega) (by simpa using h)
 have hle : l = f.getD j 0 := by omega
 obtain ⟨i, hi, he⟩ := List.getElem_of_mem hl
 simp at hi he
 have := (List.pairwise_iff_getElem.1 hf.nod) i j (by omega) hj (by omega)
 rw [he, hle, e2] at this
 exact this rfl
theorem ofL_snoc (cls : List (List Int)) (f : List Int) (q : Nat) : ofL (cls ++ [f]) q = ofL cls q ++ if f.any (fun l => place (-l) == q) then [(cls.length : Int)] else [] := by
 unfold ofL ofN
 rw [List.length_append, List.length_singleton, List.range_succ, List.filter_append, List.map_append]
 congr 1
 ·congr 1
  apply List.filter_congr
  intro k hk
  rw [getD_app_l _ _ _ (List.mem_range.1 hk)]
 ·rw [List.filter_cons, getD_app_r _ _ _ (Nat.le_refl _)]
  simp only [Nat.sub_self, List.getD_cons_zero, List.filter_nil]
  split <;> simp
theorem Chk.Ok.add {C : Chk} (o : C.Ok) {f : List Int} (hf : Up.Cls C.n f) (hl : C.cls.length < 1000000) : (C.add f).Ok := by
 refine ⟨o.n, by simp [Chk.add, o.len], ?_, o.set, by simp [Chk.add]; omega, ?_⟩
 ·intro c hc
  simp only [Chk.add, List.mem_append, List.mem_singleton] at hc
  rcases hc with hc | hc
  ·exact o.cls c hc
  ·subst hc; exact hf
 ·intro p hp
  show ofTo C f f.length p = ofL (C.cls ++ [f]) p
  rw [ofL_snoc, ← o.of_ p hp, ofTo, List.take_of_length_le (Nat.le_refl _)]
end Rup
theorem slBool : SlT Tryz.prog 28 4 1 1 := SlT.mk' (z := .bool false) Tryz.underlying28 (by kernel_rfl) rfl (by decide)
structure Adds (w : World) (g : Tag) (b : Nat) (C1 : Rup.Chk) (vf : Value) (f : List Int) (of : Nat → List Int) (wr : World) (g1 : Tag) (V1 : RupV) : Prop where
 at_ : ChkAt wr g1 b V1 { C1 with of := of }
 ag : Agree w g g1
 only : Only (Mine g) w wr
 fi : Ints wr vf f
 ft : Tagged g1 (7, 0) vf f
theorem Adds.step {C1 : Rup.Chk} {vf : Value} {f : List Int} {of : Nat → List Int} {wr w4 w5 : World} {g3 : Tag} {V3 : RupV} (hA : Adds w g b C1 vf f of wr g3 V3) {p go_ no co : Nat} {zs : List Int} {v' : Value} (hp : p < 2 * C1.n)
  (hvo : V3.vo = .slice (some ⟨go_, 0, none⟩) no co) (h4 : Only (fun k => g3 k = (8, p)) wr w4) (rr1 : Row w5 (Tag.put g3 w4.heap.size w5.heap.size (8, p)) (8, p) 3 v' (zs.map cI)) (rr2 : Only (fun k => g3 k = (8, p)) w4 w5) :
  ∃ g5 V5, Adds w g b C1 vf f (fun q => if q = p then zs else of q) (w5.setCell ⟨go_, p, none⟩ v') g5 V5 := by
 have o5 : Only (fun k => g3 k = (8, p)) wr w5 := h4.same rr2
 have ag : Agree wr g3 (Tag.put g3 w4.heap.size w5.heap.size (8, p)) := Agree.put g3 _ h4.size
 have fr : Fresh w5 (Tag.put g3 w4.heap.size w5.heap.size (8, p)) := Fresh.put (w := w4) (8, p) (hA.at_.fresh.more h4.size) rr2.size
 have H5 := hA.at_.setO hp hvo ag fr o5 rr1
 have ho := hA.at_.o
 rw [hvo] at ho
 have htg : g3 go_ = (4, 0) := ho.tg go_ rfl
 refine ⟨_, _, H5, hA.ag.trans ag hA.only.size, ?_, ?_, hA.ft.agree hA.fi ag⟩
 ·refine hA.only.mine hA.ag ?_
  exact (o5.mono fun k hk => by unfold Mine; rw [hk]; simp).setCell (.inl (by unfold Mine; rw [htg]; simp)) _
 ·have h1 := hA.fi.keepT hA.ft o5 (fun k hk hF => by rw [hk] at hF; simp at hF)
  exact h1.only' (F := fun k => k = go_) (Only.setCell (Only.refl (fun k => k = go_) w5) (p := ⟨go_, p, none⟩) (.inl rfl) _) (fun hpos k hk hF => by have := hA.ft hpos k hk; rw [hF, htg] at this; simp at this)
set_option maxRecDepth 100000 in
set_option maxHeartbeats 3200000 in
theorem rup_add_any (H : ChkAt w g b V C) (o : C.Ok) {vf : Value} {f : List Int} (hI : Ints w vf f) (hT : Tagged g (7, 0) vf f) (hf : Up.Cls C.n f) (hl : C.cls.length < 1000000) :
  Calls Tryz.prog 103 #[.pointer (some ⟨b, 0, none⟩), vf] w fun e w' => e = .returned (.tuple #[]) ∧ RupTo w g b (C.add f) w' := by
 have hn := o.n
 have hlen := o.len
 have q1 := H.f1
 obtain ⟨ac, cc, hvc, hc1, hc2⟩ := H.c.shape
 have hul : V.us.length = C.cls.length := H.ci.1
 have hrc := H.c
 rw [hvc, hul] at q1
 rw [hvc, hul] at hrc
 obtain ⟨af, cf, rfl, hf1, hf2⟩ := hI.shape
 have Hf := Lib.hid hf
 clear hf
 go_enter Tryz.func103, Tryz.ntmps103
 go_wp2_with (at_builtin; go_must (refine Row.app (u := .slice af f.length cf) slInts rfl (.tmp 16) (.tmp 18) rfl rfl rfl (cell_newE _ _ _ _ rfl) rfl (by exact Row.alloc hrc _) (by omega) (by decide) ?hK1))
 case hK1 =>
  intro v1 w1 r1 r2
  obtain ⟨g1b, cap1, rfl, -, -, -, -⟩ := r1.pos (by simp)
  have hl1 : (V.us ++ [Value.slice af f.length cf]).length = C.cls.length + 1 := by simp [hul]
  rw [hl1] at r1 ⊢
  clear hl1
  have A0 : Only (fun k => g k = (2, 0)) w (w.alloc (.cells #[.slice af f.length cf] 23)) := (Only.refl _ _).alloc _
  have O1 : Only (fun k => g k = (2, 0)) w w1 := A0.same r2
  have ag1 : Agree w g (Tag.put g (w.heap.size + 1) w1.heap.size (2, 0)) := Agree.put g _ (by omega)
  have fr1 : Fresh w1 (Tag.put g (w.heap.size + 1) w1.heap.size (2, 0)) := Fresh.put (2, 0) (H.fresh.more A0.size) r2.size
  have hI1 : Ints w1 (.slice af f.length cf) f := hI.keepT hT O1 (fun k hk hF => by rw [hk] at hF; simp at hF)
  have hT1 := hT.agree hI ag1
  have hci : AllInts w1 (V.us ++ [.slice af f.length cf]) (C.cls ++ [f]) := (H.ci.keepT H.ct O1 (fun k hk hF => by rw [hk] at hF; simp at hF)).snoc hI1
  have hct : ∀ i, i < (C.cls ++ [f]).length → Tagged (Tag.put g (w.heap.size + 1) w1.heap.size (2, 0)) (7, 0) ((V.us ++ [Value.slice af f.length cf]).getD i nilS) ((C.cls ++ [f]).getD i []) := by
   intro i hi
   by_cases hi' : i < C.cls.length
   ·rw [getD_app_l _ _ _ (by omega), getD_app_l _ _ _ hi']
    exact (H.ct i hi').agree (H.ci.2 i hi') ag1
   ·have : i = C.cls.length := by simp at hi; omega
    subst this
    rw [getD_app_r _ _ _ (by omega), getD_app_r _ _ _ (by omega), hul]
    simpa using hT1
  have H1 := H.setC ag1 fr1 O1 r1 hci hct
  have hb1 := only_block H.blk O1 (by rw [H.tb]; decide)
  have c1 : w1.cell? ⟨b, 1, none⟩ = some V.vc := by rw [cell_block hb1]; rfl
  have f1 := free_block hb1 1
  have hI1' : Ints (w1.setCell ⟨b, 1, none⟩ (.slice (some ⟨g1b, 0, none⟩) (C.cls.length + 1) cap1)) (.slice af f.length cf) f :=
   hI1.only' (F := fun k => k = b) (Only.setCell (Only.refl (fun k => k = b) w1) (p := ⟨b, 1, none⟩) (.inl rfl) _) (fun hp k hk hF => by have := hT hp k hk; rw [hF, H.tb] at this; simp at this)
  have O1' : Only (Mine g) w (w1.setCell ⟨b, 1, none⟩ (.slice (some ⟨g1b, 0, none⟩) (C.cls.length + 1) cap1)) :=
   (O1.mono fun k hk => by unfold Mine; rw [hk]; decide).setCell (.inl (by unfold Mine; rw [H.tb]; decide)) _
  generalize Tag.put g (w.heap.size + 1) w1.heap.size (2, 0) = g1 at *
  obtain ⟨ag_, cg, hvg, hg1, hg2⟩ := H1.gn.shape
  have hrg := H1.gn
  simp only at hvg hrg
  have q2 : w1.cell? ⟨b, 2, none⟩ = some V.vg := by rw [cell_block hb1]; rfl
  rw [hvg] at q2 hrg
  simp only [List.length_map, hlen] at q2 hrg
  clear hci hct hb1 O1 fr1 A0 r1 r2 hI1 hrc q1
  go_wp2_with (at_builtin; go_must (refine Row.app (u := .bool false) slBool rfl (.tmp 26) (.tmp 27) rfl rfl rfl (cell_newE _ _ _ _ (by simp [World.setCell])) rfl (by exact Row.alloc hrg _) (by simp; omega) (by decide) ?hK2))
  case hK2 =>
   intro v2 w2 r1 r2
   obtain ⟨g2b, cap2, rfl, -, -, -, -⟩ := r1.pos (by simp)
   have hl2 : (List.map Value.bool C.gone ++ [Value.bool false]).length = C.cls.length + 1 := by simp [hlen]
   rw [hl2] at r1 ⊢
   clear hl2
   generalize hW1 : w1.setCell ⟨b, 1, none⟩ (.slice (some ⟨g1b, 0, none⟩) (C.cls.length + 1) cap1) = W1 at *
   have hs1 : W1.heap.size = w1.heap.size := by rw [← hW1]; simp [World.setCell]
   clear hW1
   have A0 : Only (fun k => g1 k = (3, 0)) W1 (W1.alloc (.cells #[.bool false] 4)) := (Only.refl _ _).alloc _
   have O2 : Only (fun k => g1 k = (3, 0)) W1 w2 := A0.same r2
   have ag2 : Agree W1 g1 (Tag.put g1 (w1.heap.size + 1) w2.heap.size (3, 0)) := Agree.put g1 _ (by omega)
   have fr2 : Fresh w2 (Tag.put g1 (w1.heap.size + 1) w2.heap.size (3, 0)) := Fresh.put (3, 0) (H1.fresh.more A0.size) r2.size
   have hI2 : Ints w2 (.slice af f.length cf) f := hI1'.keepT hT1 O2 (fun k hk hF => by rw [hk] at hF; simp at hF)
   have hT2 := hT1.agree hI1' ag2
   have H2 := H1.setG ag2 fr2 O2 (gone' := C.gone ++ [false]) (by simpa using r1)
   have hb2 := only_block H1.blk O2 (by rw [H1.tb]; decide)
   have c2 : w2.cell? ⟨b, 2, none⟩ = some V.vg := by rw [cell_block hb2]; rfl
   have f2 := free_block hb2 2
   have hI2' : Ints (w2.setCell ⟨b, 2, none⟩ (.slice (some ⟨g2b, 0, none⟩) (C.cls.length + 1) cap2)) (.slice af f.length cf) f :=
    hI2.only' (F := fun k => k = b) (Only.setCell (Only.refl (fun k => k = b) w2) (p := ⟨b, 2, none⟩) (.inl rfl) _) (fun hp k hk hF => by have := hT1 hp k hk; rw [hF, H1.tb] at this; simp at this)
   have O2' : Only (Mine g1) W1 (w2.setCell ⟨b, 2, none⟩ (.slice (some ⟨g2b, 0, none⟩) (C.cls.length + 1) cap2)) :=
    (O2.mono fun k hk => by unfold Mine; rw [hk]; decide).setCell (.inl (by unfold Mine; rw [H1.tb]; decide)) _
   have hAdd : Adds w g b { C with cls := C.cls ++ [f], gone := C.gone ++ [false] } (.slice af f.length cf) f (Rup.ofTo C f 0) (w2.setCell ⟨b, 2, none⟩ (.slice (some ⟨g2b, 0, none⟩) (C.cls.length + 1) cap2)) (Tag.put g1 (w1.heap.size + 1) w2.heap.size (3, 0)) _ :=
    ⟨by rw [Rup.ofTo_zero]; exact H2, ag1.trans ag2 O1'.size, O1'.mine ag1 O2', hI2', hT2⟩
   have HA := Lib.hid hAdd
   clear hAdd O2' hI2' hb2 H2 hT2 hI2 fr2 ag2 O2 A0 hs1 r1 r2 hrg q2 hvg hg1 hg2 H1 hT1 ag1 O1' hI1' c1 f1 hI hT hvc hc1 hc2
   go_wp2_with fail
   go_loopw [33] (fun v wr => ∃ (j : Nat) (g3 : Tag) (V3 : RupV), v = .int .i64 j ∧ j ≤ f.length ∧ Adds w g b { C with cls := C.cls ++ [f], gone := C.gone ++ [false] } (.slice af f.length cf) f (Rup.ofTo C f j) wr g3 V3) (fun v _ => f.length - (intOf v).toNat)
   case atStart => exact ⟨0, _, _, rfl, Nat.zero_le _, HA.out⟩
   case round =>
    clear HA c2 f2
    obtain ⟨j, g3, V3, rfl, hj, hA⟩ := hrel
    by_cases cj : j < f.length
    ·obtain ⟨bf, of_, rfl, _, hcs⟩ := hA.fi.cells _ _ _ rfl (by omega)
     have qx := hcs j cj
     have hx := Hf.out.lit _ (getD_mem' 0 cj)
     have hst := Rup.ofTo_succ (C := C) Hf.out cj
     have hnw := Rup.ofTo_new (C := C) Hf.out cj
     generalize f.getD j 0 = x at *
     have HST := Lib.hid hst
     have HNW := Lib.hid hnw
     clear hcs hst hnw
     have hnx : -x ≠ 0 ∧ (-x).natAbs ≤ C.n := by omega
     obtain ⟨nx, hnxe⟩ : ∃ nx, nx = -x := ⟨_, rfl⟩
     rw [← hnxe] at hnx HST HNW
     have hpl : Rup.place nx < 2 * C.n := Rup.place_lt hnx
     obtain ⟨p, hp⟩ : ∃ p, p = Rup.place nx := ⟨_, rfl⟩
     rw [← hp] at hpl HST HNW
     have hol : V3.os.length = 2 * C.n := hA.at_.ol
     obtain ⟨go_, capo, hvo, -, -, htgo, -⟩ := hA.at_.o.pos (by omega)
     have hro := hA.at_.o
     have q3 := hA.at_.f3
     rw [hvo, hol] at hro q3
     have qu := hro.cell nilS (i := p) (by omega)
     have fu := hro.free p
     have hru := hA.at_.oi p hpl
     simp only [HNW.out] at hru
     obtain ⟨au, cu, hvu, hu1, hu2⟩ := hru.shape
     rw [hvu] at qu hru
     simp only [List.length_map] at qu hru hvu hu1
     have hofl : (C.of p).length ≤ 1000000 := by
      rw [o.of_ p hpl, Rup.ofL, List.length_map, Rup.ofN]
      have := List.length_filter_le (fun k => (C.cls.getD k []).any fun l => Rup.place (-l) == p) (List.range C.cls.length)
      simp at this ⊢
      omega
     have ew : IntKind.i64.wrap (-x) = nx := by rw [hnxe]; exact IntWalk.i64_in _ (by omega)
     have HPl := Lib.hid hp
     have HNx := Lib.hid hnxe
     have HX := Lib.hid hx
     have pb1 : (0 : Int) ≤ (p : Int) := by omega
     have pb2 : (p : Int) < ((2 * C.n : Nat) : Int) := by omega
     generalize hm2 : 2 * C.n = m2 at *
     have HM2 := Lib.hid hm2.symm
     have HVO := Lib.hid hvo
     clear hp hnxe hx hj hm2 hvo
     have hk1 : ¬ g3 b = (8, p) := by rw [hA.at_.tb]; simp
     have hk2 : ¬ g3 go_ = (8, p) := by rw [htgo]; simp
     have HK1 := Lib.hid hk1
     have HK2 := Lib.hid hk2
     have lb := lt_block hA.at_.blk
     have lgo : go_ < wr.heap.size := World.block_lt_of_cell? wr _ qu
     clear hk1 hk2
     have hfz : ∀ o, (wr.alloc o).frozen? ⟨go_, p, none⟩ = false := fun o => free_keep qu fu ((Only.refl (fun _ => False) wr).alloc o) (fun f => f)
     have hS5 : ∀ o w5, Only (fun k => g3 k = (8, p)) (wr.alloc o).drew w5 → w5.cell? ⟨b, 3, none⟩ = some (.slice (some ⟨go_, 0, none⟩) m2 capo) ∧ w5.cell? ⟨go_, p, none⟩ = some (.slice au (C.of p).length cu) ∧ w5.frozen? ⟨go_, p, none⟩ = false := by
      intro o w5 h
      have hx5 : Only (fun k => g3 k = (8, p)) wr w5 := Only.same (((Only.refl _ wr).alloc o).drew) h
      exact ⟨cell_keep q3 hx5 HK1.out, cell_keep qu hx5 HK2.out, free_keep qu fu hx5 HK2.out⟩
     have HS5 := Lib.hid hS5
     clear hS5
     go_wp2_with fail
     refine wp_region_last (n := 20) (S := fun w' => w'.cell? ⟨b, 3, none⟩ = some (.slice (some ⟨go_, 0, none⟩) m2 capo) ∧ w'.cell? ⟨go_, p, none⟩ = some (.slice au (C.of p).length cu) ∧ w'.frozen? ⟨go_, p, none⟩ = false) (by kernel_rfl) rfl (by kernel_rfl) ⟨q3, qu, fu⟩ (fun hHeld => ?_)
     refine wpAnyH_take (i := 0) (v := ?_) rfl (by kernel_rfl) (by kernel_rfl) (by kernel_rfl) (fun _ _ _ h => h) (Or.inl ⟨by rfl, ?_⟩) (by assumption) ?_
     rotate_left
     ·(intro w hSw; (try dsimp only at hSw); go_simp <;> (try with_reducible rfl))
     try simp only [Act.put, zq4]
     refine wpAnyH_take (i := 1) (v := ?_) rfl (by kernel_rfl) (by kernel_rfl) (by kernel_rfl) (fun _ _ _ h => h) (Or.inl ⟨by rfl, ?_⟩) (by assumption) ?_
     rotate_left
     ·(intro w hSw; (try dsimp only at hSw); go_simp <;> (try with_reducible rfl))
     try simp only [Act.put]
     refine wpAnyH_take (i := 2) (v := ?_) rfl (by kernel_rfl) (by kernel_rfl) (by kernel_rfl) (fun _ _ _ h => h) (Or.inl ⟨by rfl, ?_⟩) (by assumption) ?_
     rotate_left
     ·(intro w hSw; (try dsimp only at hSw); go_simp <;> (try with_reducible rfl))
     try simp only [Act.put]
     refine wpAnyH_take (i := 3) (v := ?_) rfl (by kernel_rfl) (by kernel_rfl) (by kernel_rfl) (fun _ _ _ h => h) (Or.inl ⟨by rfl, ?_⟩) (by assumption) ?_
     rotate_left
     ·(intro w hSw; (try dsimp only at hSw); go_simp <;> (try with_reducible rfl))
     try simp only [Act.put]
     refine wpAnyH_take (i := 4) (v := ?_) rfl (by kernel_rfl) (by kernel_rfl) (by kernel_rfl) (fun _ _ _ h => h) (Or.inl ⟨by rfl, ?_⟩) (by assumption) ?_
     rotate_left
     ·(intro w hSw; (try dsimp only at hSw); go_simp <;> (try with_reducible rfl))
     try simp only [Act.put]
     refine wpAnyH_take (i := 5) (v := ?_) rfl (by kernel_rfl) (by kernel_rfl) (by kernel_rfl) (fun _ _ _ h => h) (Or.inl ⟨by rfl, ?_⟩) (by assumption) ?_
     rotate_left
     ·(intro w hSw; (try dsimp only at hSw); go_simp <;> (try with_reducible rfl))
     try simp only [Act.put]
     refine wpAnyH_take (i := 7) (v := ?_) rfl (by kernel_rfl) (by kernel_rfl) (by kernel_rfl) (fun _ _ _ h => h) (Or.inl ⟨by rfl, ?_⟩) (by assumption) ?_
     rotate_left
     ·(intro w hSw; (try dsimp only at hSw); go_simp <;> (try with_reducible rfl))
     try simp only [Act.put]
     refine wpAnyH_take (i := 8) (v := ?_) rfl (by kernel_rfl) (by kernel_rfl) (by kernel_rfl) (fun _ _ _ h => h) (Or.inl ⟨by rfl, ?_⟩) (by assumption) ?_
     rotate_left
     ·(intro w hSw; (try dsimp only at hSw); go_simp <;> (try with_reducible rfl))
     try simp only [Act.put]
     refine wpAnyH_take (i := 9) (v := ?_) rfl (by kernel_rfl) (by kernel_rfl) (by kernel_rfl) (fun _ _ _ h => h) (Or.inl ⟨by rfl, ?_⟩) (by assumption) ?_
     rotate_left
     ·(intro w hSw; (try dsimp only at hSw); go_simp <;> (try with_reducible rfl))
     try simp only [Act.put]
     refine wpAnyH_take (i := 10) (v := ?_) rfl (by kernel_rfl) (by kernel_rfl) (by kernel_rfl) (fun _ _ _ h => h) (Or.inl ⟨by rfl, ?_⟩) (by assumption) ?_
     rotate_left
     ·(intro w hSw; (try dsimp only at hSw); go_simp <;> (try with_reducible rfl))
     try simp only [Act.put]
     refine wpAnyH_take (i := 11) (v := ?_) rfl (by kernel_rfl) (by kernel_rfl) (by kernel_rfl) (fun _ _ _ h => h) (Or.inl ⟨by rfl, ?_⟩) (by assumption) ?_
     rotate_left
     ·(intro w hSw; (try dsimp only at hSw); go_simp <;> (try with_reducible rfl))
     try simp only [Act.put]
     refine wpAnyH_take (i := 12) (v := ?_) rfl (by kernel_rfl) (by kernel_rfl) (by kernel_rfl) (fun _ _ _ h => h) (Or.inl ⟨by rfl, ?_⟩) (by assumption) ?_
     rotate_left
     ·(intro w hSw; (try dsimp only at hSw); go_simp <;> (try with_reducible rfl))
     try simp only [Act.put]
     refine wpAnyH_take (i := 16) (v := ?_) rfl (by kernel_rfl) (by kernel_rfl) (by kernel_rfl) (fun _ _ _ h => h) (Or.inl ⟨by rfl, ?_⟩) (by assumption) ?_
     rotate_left
     ·(intro w hSw; (try dsimp only at hSw); go_simp <;> (try with_reducible rfl))
     try simp only [Act.put]
     refine wpAnyH_ready (rs := [6, 17]) (by kernel_rfl) (by simp) ?_
     refine AllReadyH.cons (i := 6) rfl (fun K hK => ?_) ?_
     ·go_simp
      (refine (rup_place_any nx C.n hn hnx (p : Int) (by rw [HPl.out])).mono ?_; rintro e w' ⟨rfl, rfl⟩)
      try go_wp2_with fail
      refine hK.out _ _ ?_ (fun hHeld => ?_)
      ·(try dsimp only); (first | (go_keep; done) | exact HS5.out _ _ rr2)
      clear hK K
      try simp only [Act.put, zq4, zq5, zq6]
      refine wpAnyH_ready (rs := [13, 17]) (by kernel_rfl) (by simp) ?_
      refine AllReadyH.cons (i := 13) rfl (fun K hK => ?_) ?_
      ·go_simp
       (refine (rup_place_any nx C.n hn hnx (p : Int) (by rw [HPl.out])).mono ?_; rintro e w' ⟨rfl, rfl⟩)
       try go_wp2_with fail
       refine hK.out _ _ ?_ (fun hHeld => ?_)
       ·(try dsimp only); (first | (go_keep; done) | exact HS5.out _ _ rr2)
       clear hK K
       try simp only [Act.put, zq4, zq5, zq6]
       refine wpAnyH_take (i := 14) (v := ?_) rfl (by kernel_rfl) (by kernel_rfl) (by kernel_rfl) (fun _ _ _ h => h) (Or.inl ⟨by rfl, ?_⟩) (by assumption) ?_
       rotate_left
       ·(intro w hSw; (try dsimp only at hSw); go_simp <;> (try with_reducible rfl))
       try simp only [Act.put, zq4]
       refine wpAnyH_take (i := 15) (v := ?_) rfl (by kernel_rfl) (by kernel_rfl) (by kernel_rfl) (fun _ _ _ h => h) (Or.inl ⟨by rfl, ?_⟩) (by assumption) ?_
       rotate_left
       ·(intro w hSw; (try dsimp only at hSw); go_simp <;> (try with_reducible rfl))
       try simp only [Act.put]
       refine wpAnyH_ready (rs := [17]) (by kernel_rfl) (by simp) ?_
       refine AllReadyH.cons (i := 17) rfl (fun K hK => ?_) ?_
       ·go_simp
        refine hK.out _ _ ?_ (fun hHeld => ?_)
        ·(try dsimp only); (first | (go_keep; done) | exact HS5.out _ _ rr2)
        clear hK K
        try simp only [Act.put, zq4, zq5, zq6]
        refine wpAnyH_ready (rs := [18]) (by kernel_rfl) (by simp) ?_
        refine AllReadyH.cons (i := 18) rfl (fun K hK => ?_) ?_
        ·(refine Row.step (u := .int .i64 (C.cls.length : Int)) slInt (by rfl) (.tmp 52) (.tmp 54) (by rfl) (by rfl) (by rfl) (by simp) rfl (by repeat (first | exact hru | apply Row.drew | apply Row.alloc | apply Row.drewN)) (by simp; omega) (by decide) ?_; intro bb cap w5 rr1 rr2)
         refine hK.out _ _ ?_ (fun hHeld => ?_)
         ·(try dsimp only); (first | (go_keep; done) | exact HS5.out _ _ rr2)
         clear hK K
         try simp only [Act.put, zq4]
         refine wpAnyH_take (i := 19) (v := ?_) rfl (by kernel_rfl) (by kernel_rfl) (by kernel_rfl) (fun _ _ _ h => h) (Or.inl ⟨by rfl, ?_⟩) (by assumption) ?_
         rotate_left
         ·(intro w hSw; (try dsimp only at hSw); go_simp <;> (try with_reducible rfl))
         try simp only [Act.put]
         refine wpAnyH_done (by kernel_rfl) ?_ _
         show wpList _ _ _ _ _ _
         obtain ⟨c3, c4, c5⟩ := hHeld
         obtain ⟨g5, V5, hA5⟩ := hA.step (zs := C.of p ++ [(C.cls.length : Int)]) (by rw [← HM2.out]; exact hpl) HVO.out (by repeat (first | exact Only.refl _ wr | apply Only.drew | apply Only.alloc | apply Only.drewN)) (by simpa [cI] using rr1) rr2
         simp only [List.length_map] at hA5 c3 c4 c5 ⊢
         have HA5 := Lib.hid hA5
         clear hA5 rr1 rr2 hA hru q3 qu fu hfz HS5
         go_wp2_with fail
         go_roundw
         case rel => exact ⟨j + 1, g5, V5, by go_num, by omega, by rw [HST.out]; exact HA5.out⟩
         case measure => simp [intOf]; omega
        exact AllReadyH.nil
       exact AllReadyH.nil
      refine AllReadyH.cons (i := 17) rfl (fun K hK => ?_) ?_
      ·go_simp
       refine hK.out _ _ ?_ (fun hHeld => ?_)
       ·(try dsimp only); (first | (go_keep; done) | exact HS5.out _ _ rr2)
       clear hK K
       try simp only [Act.put, zq4, zq5, zq6]
       refine wpAnyH_ready (rs := [13]) (by kernel_rfl) (by simp) ?_
       refine AllReadyH.cons (i := 13) rfl (fun K hK => ?_) ?_
       ·go_simp
        (refine (rup_place_any nx C.n hn hnx (p : Int) (by rw [HPl.out])).mono ?_; rintro e w' ⟨rfl, rfl⟩)
        try go_wp2_with fail
        refine hK.out _ _ ?_ (fun hHeld => ?_)
        ·(try dsimp only); (first | (go_keep; done) | exact HS5.out _ _ rr2)
        clear hK K
        try simp only [Act.put, zq4, zq5, zq6]
        refine wpAnyH_take (i := 14) (v := ?_) rfl (by kernel_rfl) (by kernel_rfl) (by kernel_rfl) (fun _ _ _ h => h) (Or.inl ⟨by rfl, ?_⟩) (by assumption) ?_
        rotate_left
        ·(intro w hSw; (try dsimp only at hSw); go_simp <;> (try with_reducible rfl))
        try simp only [Act.put, zq4]
        refine wpAnyH_take (i := 15) (v := ?_) rfl (by kernel_rfl) (by kernel_rfl) (by kernel_rfl) (fun _ _ _ h => h) (Or.inl ⟨by rfl, ?_⟩) (by assumption) ?_
        rotate_left
        ·(intro w hSw; (try dsimp only at hSw); go_simp <;> (try with_reducible rfl))
        try simp only [Act.put]
        refine wpAnyH_ready (rs := [18]) (by kernel_rfl) (by simp) ?_
        refine AllReadyH.cons (i := 18) rfl (fun K hK => ?_) ?_
        ·(refine Row.step (u := .int .i64 (C.cls.length : Int)) slInt (by rfl) (.tmp 52) (.tmp 54) (by rfl) (by rfl) (by rfl) (by simp) rfl (by repeat (first | exact hru | apply Row.drew | apply Row.alloc | apply Row.drewN)) (by simp; omega) (by decide) ?_; intro bb cap w5 rr1 rr2)
         refine hK.out _ _ ?_ (fun hHeld => ?_)
         ·(try dsimp only); (first | (go_keep; done) | exact HS5.out _ _ rr2)
         clear hK K
         try simp only [Act.put]
         refine wpAnyH_take (i := 19) (v := ?_) rfl (by kernel_rfl) (by kernel_rfl) (by kernel_rfl) (fun _ _ _ h => h) (Or.inl ⟨by rfl, ?_⟩) (by assumption) ?_
         rotate_left
         ·(intro w hSw; (try dsimp only at hSw); go_simp <;> (try with_reducible rfl))
         try simp only [Act.put]
         refine wpAnyH_done (by kernel_rfl) ?_ _
         show wpList _ _ _ _ _ _
         obtain ⟨c3, c4, c5⟩ := hHeld
         obtain ⟨g5, V5, hA5⟩ := hA.step (zs := C.of p ++ [(C.cls.length : Int)]) (by rw [← HM2.out]; exact hpl) HVO.out (by repeat (first | exact Only.refl _ wr | apply Only.drew | apply Only.alloc | apply Only.drewN)) (by simpa [cI] using rr1) rr2
         simp only [List.length_map] at hA5 c3 c4 c5 ⊢
         have HA5 := Lib.hid hA5
         clear hA5 rr1 rr2 hA hru q3 qu fu hfz HS5
         go_wp2_with fail
         go_roundw
         case rel => exact ⟨j + 1, g5, V5, by go_num, by omega, by rw [HST.out]; exact HA5.out⟩
         case measure => simp [intOf]; omega
        exact AllReadyH.nil
       exact AllReadyH.nil
      exact AllReadyH.nil
     refine AllReadyH.cons (i := 17) rfl (fun K hK => ?_) ?_
     ·go_simp
      refine hK.out _ _ ?_ (fun hHeld => ?_)
      ·(try dsimp only); (first | (go_keep; done) | exact HS5.out _ _ rr2)
      clear hK K
      try simp only [Act.put, zq4, zq5, zq6]
      refine wpAnyH_ready (rs := [6]) (by kernel_rfl) (by simp) ?_
      refine AllReadyH.cons (i := 6) rfl (fun K hK => ?_) ?_
      ·go_simp
       (refine (rup_place_any nx C.n hn hnx (p : Int) (by rw [HPl.out])).mono ?_; rintro e w' ⟨rfl, rfl⟩)
       try go_wp2_with fail
       refine hK.out _ _ ?_ (fun hHeld => ?_)
       ·(try dsimp only); (first | (go_keep; done) | exact HS5.out _ _ rr2)
       clear hK K
       try simp only [Act.put, zq4, zq5, zq6]
       refine wpAnyH_ready (rs := [13]) (by kernel_rfl) (by simp) ?_
       refine AllReadyH.cons (i := 13) rfl (fun K hK => ?_) ?_
       ·go_simp
        (refine (rup_place_any nx C.n hn hnx (p : Int) (by rw [HPl.out])).mono ?_; rintro e w' ⟨rfl, rfl⟩)
        try go_wp2_with fail
        refine hK.out _ _ ?_ (fun hHeld => ?_)
        ·(try dsimp only); (first | (go_keep; done) | exact HS5.out _ _ rr2)
        clear hK K
        try simp only [Act.put, zq4, zq5, zq6]
        refine wpAnyH_take (i := 14) (v := ?_) rfl (by kernel_rfl) (by kernel_rfl) (by kernel_rfl) (fun _ _ _ h => h) (Or.inl ⟨by rfl, ?_⟩) (by assumption) ?_
        rotate_left
        ·(intro w hSw; (try dsimp only at hSw); go_simp <;> (try with_reducible rfl))
        try simp only [Act.put, zq4]
        refine wpAnyH_take (i := 15) (v := ?_) rfl (by kernel_rfl) (by kernel_rfl) (by kernel_rfl) (fun _ _ _ h => h) (Or.inl ⟨by rfl, ?_⟩) (by assumption) ?_
        rotate_left
        ·(intro w hSw; (try dsimp only at hSw); go_simp <;> (try with_reducible rfl))
        try simp only [Act.put]
        refine wpAnyH_ready (rs := [18]) (by kernel_rfl) (by simp) ?_
        refine AllReadyH.cons (i := 18) rfl (fun K hK => ?_) ?_
        ·(refine Row.step (u := .int .i64 (C.cls.length : Int)) slInt (by rfl) (.tmp 52) (.tmp 54) (by rfl) (by rfl) (by rfl) (by simp) rfl (by repeat (first | exact hru | apply Row.drew | apply Row.alloc | apply Row.drewN)) (by simp; omega) (by decide) ?_; intro bb cap w5 rr1 rr2)
         refine hK.out _ _ ?_ (fun hHeld => ?_)
         ·(try dsimp only); (first | (go_keep; done) | exact HS5.out _ _ rr2)
         clear hK K
         try simp only [Act.put]
         refine wpAnyH_take (i := 19) (v := ?_) rfl (by kernel_rfl) (by kernel_rfl) (by kernel_rfl) (fun _ _ _ h => h) (Or.inl ⟨by rfl, ?_⟩) (by assumption) ?_
         rotate_left
         ·(intro w hSw; (try dsimp only at hSw); go_simp <;> (try with_reducible rfl))
         try simp only [Act.put]
         refine wpAnyH_done (by kernel_rfl) ?_ _
         show wpList _ _ _ _ _ _
         obtain ⟨c3, c4, c5⟩ := hHeld
         obtain ⟨g5, V5, hA5⟩ := hA.step (zs := C.of p ++ [(C.cls.length : Int)]) (by rw [← HM2.out]; exact hpl) HVO.out (by repeat (first | exact Only.refl _ wr | apply Only.drew | apply Only.alloc | apply Only.drewN)) (by simpa [cI] using rr1) rr2
         simp only [List.length_map] at hA5 c3 c4 c5 ⊢
         have HA5 := Lib.hid hA5
         clear hA5 rr1 rr2 hA hru q3 qu fu hfz HS5
         go_wp2_with fail
         go_roundw
         case rel => exact ⟨j + 1, g5, V5, by go_num, by omega, by rw [HST.out]; exact HA5.out⟩
         case measure => simp [intOf]; omega
        exact AllReadyH.nil
       exact AllReadyH.nil
      exact AllReadyH.nil
     exact AllReadyH.nil
    ·have hj' : j = f.length := by omega
     have hfin : RupTo w g b (C.add f) wr := ⟨g3, V3, by rw [hj'] at hA; exact hA.at_, hA.ag, hA.only⟩
     have HF := Lib.hid hfin
     clear hfin hA
     go_wp2_with fail
     go_end0
     exact ⟨rfl, HF.out⟩
end
section
variable {w : World} {g : Tag} {b : Nat} {V : RupV} {C : Rup.Chk}
theorem Equal_any {va vb : Value} {xs ys : List Int} (ha : Ints w va xs) (hb : Ints w vb ys) (r : Bool) (hr : (xs == ys) = r) :
  Calls Tryz.prog 140 #[va, vb] w fun e w' => e = .returned (.bool r) ∧ Only (fun _ => False) w w' := by
 subst hr
 obtain ⟨ao, ca, rfl, ha1, ha2⟩ := ha.shape
 obtain ⟨bo, cb, rfl, hb1, hb2⟩ := hb.shape
 by_cases hl : xs.length = ys.length
 ·by_cases h0 : xs.length = 0
  ·have hx : xs = [] := List.eq_nil_of_length_eq_zero h0
   have hy : ys = [] := List.eq_nil_of_length_eq_zero (by omega)
   subst hx hy
   exact (Tryz.slices_Equal_int_empty ao bo ca 0 cb w (by decide)).mono fun e w' ⟨he, hw⟩ => ⟨he, by rw [hw]; exact Only.refl _ _⟩
  ·obtain ⟨b1, o1, rfl, _, c1⟩ := ha.cells _ _ _ rfl (by omega)
   obtain ⟨b2, o2, rfl, _, c2⟩ := hb.cells _ _ _ rfl (by omega)
   refine (Tryz.slices_Equal_int b1 o1 xs.length ca b2 o2 ys.length cb xs ys w (Nat.le_refl _) (Nat.le_refl _) (by omega) (by omega) c1 c2).mono fun e w' ⟨he, q, hw⟩ => ⟨?_, by rw [hw]; exact (Only.refl _ _).drewN q⟩
   rw [he, List.take_of_length_le (Nat.le_refl _), List.take_of_length_le (Nat.le_refl _)]
 ·have hne : (xs == ys) = false := beq_eq_false_iff_ne.2 (fun e => hl (by rw [e]))
  rw [hne]
  exact (Tryz.slices_Equal_int_lens ao bo xs.length ca ys.length cb w hl).mono fun e w' ⟨he, hw⟩ => ⟨he, by rw [hw]; exact Only.refl _ _⟩
namespace Rup
def Chk.hit (C : Chk) (f : List Int) (k : Nat) : Bool := !C.gone.getD k false && C.cls.getD k [] == f
def Chk.dropK (C : Chk) (f : List Int) : Nat → Option Nat
 | 0 => none
 | k + 1 => if C.hit f k then some k else C.dropK f k
def Chk.dropped (C : Chk) (k : Nat) : Chk := { C with gone := C.gone.set k true }
def Chk.dropR (C : Chk) (f : List Int) : Chk := match C.dropK f C.cls.length with | none => C | some k => C.dropped k
theorem Chk.Ok.dropped {C : Chk} (o : C.Ok) (k : Nat) : (C.dropped k).Ok := ⟨o.n, by simp [Chk.dropped, o.len], o.cls, o.set, o.few, o.of_⟩
theorem Chk.Ok.dropR {C : Chk} (o : C.Ok) (f : List Int) : (C.dropR f).Ok := by
 unfold Chk.dropR
 split
 ·exact o
 ·exact o.dropped _
end Rup
theorem RupTo.after (H : ChkAt w g b V C) {w1 w2 : World} (o1 : Only (fun _ => False) w w1) {C2 : Rup.Chk} (h : RupTo w1 g b C2 w2) : RupTo w g b C2 w2 :=
 RupTo.trans (Agree.refl _ _) (o1.mono fun _ f => f.elim) h
theorem ChkAt.drop (H : ChkAt w g b V C) {gg n cap : Nat} (hv : V.vg = .slice (some ⟨gg, 0, none⟩) n cap) (k : Nat) : RupTo w g b (C.dropped k) (w.setCell ⟨gg, k, none⟩ (.bool true)) := by
 have hr := H.gn
 rw [hv] at hr
 have htg : g gg = (3, 0) := hr.tg gg rfl
 have hne : ∀ {t : Nat × Nat}, t.1 ≠ 3 → g gg ≠ t := fun {t} h e => by rw [htg] at e; rw [← e] at h; exact h rfl
 have hnb : b ≠ gg := by intro e; have := H.tb; rw [e, htg] at this; simp at this
 have h3 := hr.store k (.bool true)
 refine ⟨g, V, ⟨set_block_other H.blk hnb _, H.tb, H.c.far (hne (by decide)) _, ?_, H.ct, ?_, H.o.far (hne (by decide)) _, H.ol, fun p hp => (H.oi p hp).far (hne (by simp)) _, H.v.far (hne (by decide)) _, H.s.far (hne (by decide)) _, H.fresh.more (by simp [World.setCell])⟩, Agree.refl _ _, ?_⟩
 ·exact H.ci.keepT (F := fun k => k = gg) H.ct (Only.setCell (Only.refl (fun k => k = gg) w) (p := ⟨gg, k, none⟩) (.inl rfl) _) (fun k hk hF => by rw [hF, htg] at hk; simp at hk)
 ·rw [hv]; show Row _ _ _ _ _ ((C.gone.set k true).map Value.bool)
  rw [List.map_set]; exact h3
 ·exact (Only.refl _ w).setCell (.inl (by unfold Mine; rw [htg]; simp)) _
set_option maxHeartbeats 1600000 in
theorem rup_drop_any (H : ChkAt w g b V C) (o : C.Ok) {vf : Value} {f : List Int} (hI : Ints w vf f) (r : Bool) (hr : (C.dropK f C.cls.length).isSome = r) :
  Calls Tryz.prog 104 #[.pointer (some ⟨b, 0, none⟩), vf] w fun e w' => e = .returned (.bool r) ∧ RupTo w g b (C.dropR f) w' := by
 have hlen := o.len
 have hfew := o.few
 have hul : V.us.length = C.cls.length := H.ci.1
 obtain ⟨ac, cc, hvc, hc1, hc2⟩ := H.c.shape
 have q1 := H.f1
 rw [hvc, hul] at q1
 have HR := Lib.hid hr
 clear hr
 go_enter Tryz.func104, Tryz.ntmps104
 go_wp2_with fail
 go_loopw [5] (fun v wr => ∃ k : Nat, v = .int .i64 ((k : Int) - 1) ∧ k ≤ C.cls.length ∧ C.dropK f C.cls.length = C.dropK f k ∧ Only (fun _ => False) w wr) (fun v _ => (intOf v + 1).toNat)
 case atStart => exact ⟨C.cls.length, rfl, Nat.le_refl _, rfl, Only.refl _ _⟩
 case round =>
  obtain ⟨k, rfl, hk, hD, hO⟩ := hrel
  have HD := Lib.hid hD
  clear hD
  by_cases ck : 0 < k
  ·obtain ⟨j, rfl⟩ : ∃ j, k = j + 1 := ⟨k - 1, by omega⟩
   have Hr := H.only0 hO
   have q1r := Hr.f1
   have q2r := Hr.f2
   obtain ⟨gg, capg, hvg, hg1, hg2, htg, hltg⟩ := Hr.gn.pos (by simp; omega)
   obtain ⟨gc, capc, hvc', -, -, htc, hltc⟩ := Hr.c.pos (by omega)
   have hrg := Hr.gn
   have hrc := Hr.c
   have hdr := fun W (hW : ChkAt W g b V C) => hW.drop hvg j
   rw [hvg] at q2r hrg
   rw [hvc'] at q1r hrc
   have qg := hrg.cellM (f := Value.bool) false (i := j) (by omega)
   have qc := hrc.cell nilS (i := j) (by omega)
   have fg := hrg.free j
   have hci := Hr.ci.2 j (by omega)
   simp only [List.length_map, hlen] at q2r hrg
   simp only [hul] at q1r
   have hhit : C.hit f j = (!C.gone.getD j false && C.cls.getD j [] == f) := rfl
   have HH := Lib.hid hhit
   have HDr := Lib.hid hdr
   clear hhit hdr hvg hvc' hrc
   have ej : ((j + 1 : Nat) : Int) - 1 = (j : Int) := by omega
   rw [ej]
   have jb : (j : Int) < (C.cls.length : Int) := by omega
   generalize V.us.getD j nilS = u at *
   cases hgj : C.gone.getD j false
   ·rw [hgj] at qg
    cases he : (C.cls.getD j [] == f)
    ·have hE := Equal_any hci (hI.only0 hO) false he
     have HE := Lib.hid hE
     have hd2 : C.dropK f (j + 1) = C.dropK f j := by
      rw [Rup.Chk.dropK, HH.out, hgj, he]; rfl
     have HD2 := Lib.hid hd2
     clear hd2 hE he hgj
     go_wp2_with fail
     refine HE.out.mono ?_
     rintro e w' ⟨rfl, O2⟩
     go_wp2_with fail
     go_roundw
     case rel => exact ⟨j, rfl, by omega, by rw [HD.out, HD2.out], hO.same O2⟩
     case measure => simp [intOf]
    ·have hE := Equal_any hci (hI.only0 hO) true he
     have HE := Lib.hid hE
     have hd2 : C.dropK f (j + 1) = some j := by
      rw [Rup.Chk.dropK, HH.out, hgj, he]; rfl
     have hres : r = true ∧ C.dropR f = C.dropped j := by
      constructor
      ·rw [← HR.out, HD.out, hd2]; rfl
      ·unfold Rup.Chk.dropR
       rw [HD.out, hd2]
     have HRes := Lib.hid hres
     clear hd2 hE he hgj hres
     go_wp2_with fail
     refine HE.out.mono ?_
     rintro e w' ⟨rfl, O2⟩
     have q2' := cell_keep q2r O2 (fun f => f)
     have qg' := cell_keep qg O2 (fun f => f)
     have fg' := free_keep qg fg O2 (fun f => f)
     have hfin : RupTo w g b (C.dropped j) (w'.setCell ⟨gg, j, none⟩ (.bool true)) := RupTo.after H (hO.same O2) (HDr.out w' (Hr.only0 O2))
     have HF := Lib.hid hfin
     clear hfin
     go_wp2_with fail
     go_ret
     obtain ⟨h1, h2⟩ := HRes.out
     rw [h1, h2]
     exact ⟨rfl, HF.out⟩
   ·rw [hgj] at qg
    have hd2 : C.dropK f (j + 1) = C.dropK f j := by
     rw [Rup.Chk.dropK, HH.out, hgj]; rfl
    have HD2 := Lib.hid hd2
    clear hd2 hgj
    go_wp2_with fail
    go_roundw
    case rel => exact ⟨j, rfl, by omega, by rw [HD.out, HD2.out], hO⟩
    case measure => simp [intOf]
  ·have hk0 : k = 0 := by omega
   subst hk0
   have hres : r = false ∧ C.dropR f = C := by
    constructor
    ·rw [← HR.out, HD.out]; rfl
    ·unfold Rup.Chk.dropR
     rw [HD.out]; rfl
   have HRes := Lib.hid hres
   have hfin : RupTo w g b C wr := RupTo.after H hO (RupTo.refl (H.only0 hO))
   have HF := Lib.hid hfin
   clear hres hfin
   go_wp2_with fail
   go_ret
   obtain ⟨h1, h2⟩ := HRes.out
   rw [h1, h2]
   exact ⟨rfl, HF.out⟩
set_option maxHeartbeats 1600000 in
theorem rup_follows_any (H : ChkAt w g b V C) (o : C.Ok) (hC : C.set = []) {vf : Value} {f : List Int} (hI : Ints w vf f) (hN : NotMine g vf f) (hlit : ∀ x ∈ f, Cnf.Lit x) (hg : Up.Good C.n (f.map fun x => -x)) (r : Bool) (hr : (Up.conf C.n C.live (f.map fun x => -x)).2 = r) :
  Calls Tryz.prog 101 #[.pointer (some ⟨b, 0, none⟩), vf] w fun e w' => e = .returned (.bool r) ∧ RupTo w g b C w' := by
 subst hr
 have hn := o.n
 have hlen : f.length ≤ C.n := by have := hg.len; simpa using this
 obtain ⟨af, cf, rfl, hf1, hf2⟩ := hI.shape
 have HL := Lib.hid hlit
 have HG := Lib.hid hg
 have HC := Lib.hid hC
 clear hlit hg hC
 generalize hR : (Up.conf C.n C.live (f.map fun x => -x)).2 = R at *
 have HR := Lib.hid hR
 clear hR
 go_enter Tryz.func101, Tryz.ntmps101
 go_wp2_with fail
 go_loopw [5, 10] (fun vo v wr => ∃ k : Nat, v = .int .i64 k ∧ k ≤ f.length ∧ wr.ownsRow 0 3 1 vo k (((f.take k).map fun x => -x).map cI) ∧ (∀ j, vo.ownBlock = some j → w.heap.size ≤ j) ∧ Only (fun _ => False) w wr) (fun _ v _ => f.length - (intOf v).toNat)
 case atStart => exact ⟨0, rfl, Nat.zero_le _, World.ownsRow_nil _ _ _ _, fun j hj => by simp [Value.ownBlock] at hj, Only.refl _ _⟩
 case round =>
  obtain ⟨k, rfl, hk, ro, rb, hO⟩ := hrel
  have HB := Lib.hid rb
  clear rb
  by_cases ck : k < f.length
  ·obtain ⟨bf, of_, rfl, _, hcs⟩ := (hI.only0 hO).cells _ _ _ rfl (by omega)
   have q := hcs k ck
   have hx := (HL.out _ (getD_mem' 0 ck))
   have hts := take_snocI f k ck
   have HTS := Lib.hid hts
   clear hcs hts
   generalize f.getD k 0 = x at *
   have ew := hx.wrap
   obtain ⟨nx, hnx⟩ : ∃ nx, nx = -x := ⟨_, rfl⟩
   rw [← hnx] at ew
   have ew' : IntKind.i64.wrap (-x) = nx := by rw [← hnx]; exact ew
   have HNX := Lib.hid hnx
   clear hnx ew hx
   go_wp2_with (at_builtin; go_must (refine wpA1 (u := .int .i64 nx) slInt rfl (.tmp 14) (.tmp 17) rfl rfl rfl (cell_new0 _ _ _) rfl (own_only ro ((Only.refl (fun _ => False) _).alloc _) (fun _ _ f => f)) (by omega) (by decide) ?n3))
   intro v2 w2 s1 s2 s3
   have O2 : Only (fun _ => False) w w2 := (hO.alloc _).trans s2 (fun k hk => .inr (HB.out k hk))
   have hb2 : ∀ k, v2.ownBlock = some k → w.heap.size ≤ k := by
    obtain ⟨g, cap, rfl, _, _, h⟩ := s3
    intro k hk
    simp [Value.ownBlock] at hk
    subst hk
    rcases h with h | h
    ·exact HB.out _ h
    ·have := hO.size; simp at h; omega
   have HB2 := Lib.hid hb2
   have s1' : w2.ownsRow 0 3 1 v2 (k + 1) (((f.take (k + 1)).map fun x => -x).map cI) := by
    rw [HTS.out, List.map_append, List.map_append]
    simpa [cI, HNX.out] using s1
   clear hb2 s1 s2 s3 ro
   go_wp2_with fail
   go_roundw
   case rel => exact ⟨k + 1, by go_num, by omega, s1', HB2.out, O2⟩
   case measure => simp [intOf]; omega
  ·have hk' : k = f.length := by omega
   subst hk'
   have ro' : wr.ownsRow 0 3 1 u5 (f.map fun x => -x).length ((f.map fun x => -x).map cI) := by
    rw [List.take_of_length_le (Nat.le_refl _)] at ro
    simpa using ro
   have hIl : Ints wr u5 (f.map fun x => -x) := Ints.of_own ro' (fun x hx => by
    obtain ⟨y, hy, rfl⟩ := List.mem_map.1 hx
    exact ((HL.out y hy).neg).r)
   have hNl : NotMine g u5 (f.map fun x => -x) := by
    intro _ j hj
    refine H.fresh j (HB.out j ?_)
    obtain ⟨ao, cap, rfl, _, _⟩ := own_slice ro'
    rcases ro'.2 with ⟨h', _⟩ | ⟨g', cap', cur, h', _⟩
    ·rw [h'] at hj; simp [Value.blk] at hj
    ·rw [h'] at hj ⊢; simpa [Value.blk, Value.ownBlock] using hj
   have hcon := rup_conflict_any (H.only0 hO) o HC.out hIl hNl HG.out
   rw [HR.out] at hcon
   have HCn := Lib.hid hcon
   clear hcon hIl hNl ro ro'
   go_wp2_with fail
   refine HCn.out.mono ?_
   rintro e w' ⟨rfl, h2⟩
   go_wp2_with fail
   go_ret
   exact ⟨rfl, RupTo.after H hO h2⟩
end
attribute [local go_sem ↓] Go.wp_at_zero Go.wp_at_succ
namespace Rup
def Chk.zero (n : Nat) : Chk := { n := n, cls := [], gone := [], of := fun _ => [], set := [] }
def Chk.more (C : Chk) (c : List Int) : Chk := match formR C.n c with | none => C | some f => C.add f
def Chk.all (C : Chk) (css : List (List Int)) : Chk := css.foldl Chk.more C
theorem Chk.zero_ok {n : Nat} (h : n ≤ 65536) : (Chk.zero n).Ok :=
 ⟨h, rfl, (fun c hc => by cases hc), ⟨(fun x hx => by cases hx), List.nodup_nil⟩, by simp [Chk.zero], fun p _ => rfl⟩
theorem formR_ok {n : Nat} {c f : List Int} (hr : ∀ x ∈ c, InI64 x) (h : formR n c = some f) : Up.Cls n f ∧ (∀ x ∈ f, Cnf.Lit x) ∧ Cnf.AbsStrict f ∧ Up.Good n (f.map fun x => -x) := by
 unfold formR at h
 split at h
 ·rename_i hright
  unfold Cnf.right at hright
  simp only [Bool.and_eq_true, List.all_eq_true] at hright
  have hm := form_mem h
  have hlit : ∀ x ∈ f, Cnf.Lit x := fun x hx => by
   have h1 := hright.1 x ((hm x).1 hx)
   unfold Cnf.okAt at h1
   simp only [Bool.and_eq_true, Bool.not_eq_true'] at h1
   exact ⟨hr x ((hm x).1 hx), h1.1⟩
  have hle : ∀ x ∈ f, x.natAbs ≤ n := fun x hx => by
   have h1 := hright.1 x ((hm x).1 hx)
   unfold Cnf.okAt at h1
   simp only [Bool.and_eq_true, decide_eq_true_eq] at h1
   omega
  have habs : Cnf.AbsStrict f := by
   unfold Cnf.form at h
   split at h
   ·cases h
   ·split at h
    ·cases h
    ·rename_i hcl
     simp at h; subst h
     have hs := Cnf.formL_strict c
     unfold Cnf.Strict at hs
     unfold Cnf.AbsStrict
     rw [List.pairwise_iff_getElem] at hs ⊢
     -- two side by side are no opposites
     have step : ∀ i (hi : i + 1 < (Cnf.formL c).length), ((Cnf.formL c)[i]).natAbs < ((Cnf.formL c)[i + 1]).natAbs := by
      intro i hi
      have h1 := hs i (i + 1) (by omega) hi (by omega)
      have l1 := hlit _ (List.getElem_mem (show i < (Cnf.formL c).length by omega))
      have l2 := hlit _ (List.getElem_mem hi)
      rw [Cnf.lt_iff, l1.abs, l2.abs] at h1
      rcases h1 with h1 | ⟨h1, h2⟩
      ·omega
      ·exfalso
       apply hcl
       unfold Cnf.clash
       rw [List.any_eq_true]
       refine ⟨i + 1, by simpa using hi, ?_⟩
       have e1 : (Cnf.formL c).getD (i + 1) 0 = (Cnf.formL c)[i + 1] := by simp [List.getD_eq_getElem?_getD, hi]
       have e2 : (Cnf.formL c).getD (i + 1 - 1) 0 = (Cnf.formL c)[i] := by simp [List.getD_eq_getElem?_getD, show i < (Cnf.formL c).length by omega]
       rw [e1, e2, l1.wrap]
       simp
       omega
     intro i j hi hj hij
     have key : ∀ d, ∀ (h : i + 1 + d < (Cnf.formL c).length), ((Cnf.formL c)[i]).natAbs < ((Cnf.formL c)[i + 1 + d]).natAbs := by
      intro d
      induction d with
      | zero => intro h; exact step i (by omega)
      | succ d ih =>
       intro h
       have h1 := ih (by omega)
       have h2 := step (i + 1 + d) (by omega)
       have e : i + 1 + (d + 1) = i + 1 + d + 1 := by omega
       simp only [e]
       omega
     have := key (j - i - 1) (by omega)
     simpa [show i + 1 + (j - i - 1) = j by omega] using this
  refine ⟨⟨fun x hx => ⟨(hlit x hx).ne0, hle x hx⟩, ?_⟩, hlit, habs, ⟨fun x hx => ?_, ?_⟩⟩
  ·unfold Cnf.AbsStrict at habs
   exact habs.imp (fun h e => by rw [e] at h; omega)
  ·obtain ⟨y, hy, rfl⟩ := List.mem_map.1 hx
   have := (hlit y hy).ne0
   have := hle y hy
   omega
  ·rw [List.map_map]
   have e : (Int.natAbs ∘ fun x => -x) = Int.natAbs := by funext x; simp
   rw [e]
   unfold Cnf.AbsStrict at habs
   exact List.pairwise_map.2 (habs.imp (fun h => by omega))
 ·cases h
theorem Chk.Ok.more {C : Chk} (o : C.Ok) {c : List Int} (hr : ∀ x ∈ c, InI64 x) (hl : C.cls.length < 1000000) : (C.more c).Ok := by
 unfold Chk.more
 split
 ·exact o
 ·rename_i f hf; exact o.add (formR_ok hr hf).1 hl
theorem more_n (C : Chk) (c : List Int) : (C.more c).n = C.n := by
 unfold Chk.more; split <;> rfl
theorem more_set (C : Chk) (c : List Int) : (C.more c).set = C.set := by
 unfold Chk.more; split <;> rfl
theorem more_len (C : Chk) (c : List Int) : (C.more c).cls.length ≤ C.cls.length + 1 := by
 unfold Chk.more; split <;> simp [Chk.add]
theorem all_snoc (C : Chk) (css : List (List Int)) (c : List Int) : C.all (css ++ [c]) = (C.all css).more c := by simp [Chk.all]
theorem all_n : ∀ (css : List (List Int)) (C : Chk), (C.all css).n = C.n
 | [], _ => rfl
 | c :: r, C => (all_n r (C.more c)).trans (more_n C c)
theorem all_set : ∀ (css : List (List Int)) (C : Chk), (C.all css).set = C.set
 | [], _ => rfl
 | c :: r, C => (all_set r (C.more c)).trans (more_set C c)
theorem all_len : ∀ (css : List (List Int)) (C : Chk), (C.all css).cls.length ≤ C.cls.length + css.length
 | [], _ => Nat.le_refl _
 | c :: r, C => by
  have h1 := all_len r (C.more c)
  have h2 := more_len C c
  simp only [Chk.all, List.foldl_cons, List.length_cons] at h1 ⊢
  omega
end Rup
def Tag.own (g : Tag) (v : Value) (t : Nat × Nat) : Tag := fun k => if v.ownBlock = some k then t else g k
section
variable {w : World} {g : Tag} {b : Nat} {V : RupV} {C : Rup.Chk}
theorem Row.own_tag {t t' : Nat × Nat} {e : TypeId} {v u : Value} {xs : List Value} (h : Row w g t e v xs) (ht : t.1 ≠ 0) (hu : ∀ k, u.ownBlock = some k → (g k).1 = 0) : Row w (g.own u t') t e v xs :=
 h.retag fun k hk => by
  unfold Tag.own
  rw [if_neg]
  ·exact h.tg k hk
  ·intro e; have := hu k e; rw [h.tg k hk] at this; exact ht this
theorem ChkAt.own (H : ChkAt w g b V C) {u : Value} (hu : ∀ k, u.ownBlock = some k → (g k).1 = 0 ∧ k < w.heap.size) : ChkAt w (g.own u (7, 0)) b V C := by
 have hu1 := fun k hk => (hu k hk).1
 have keep : ∀ k, (g k).1 ≠ 0 → g.own u (7, 0) k = g k := fun k hk => by
  unfold Tag.own; rw [if_neg]; intro e; exact hk (hu1 k e)
 refine ⟨H.blk, by rw [keep b (by rw [H.tb]; decide)]; exact H.tb, H.c.own_tag (by decide) hu1, H.ci, fun i hi hp k hk => ?_, H.gn.own_tag (by decide) hu1, H.o.own_tag (by decide) hu1, H.ol, fun p hp => (H.oi p hp).own_tag (by simp) hu1, H.v.own_tag (by decide) hu1, H.s.own_tag (by decide) hu1, fun k hk => ?_⟩
 ·have := H.ct i hi hp k hk
  rw [keep k (by rw [this]; decide)]; exact this
 ·unfold Tag.own
  rw [if_neg]
  ·exact H.fresh k hk
  ·intro e; have := (hu k e).2; omega
theorem Tagged.own {vf : Value} {f : List Int} {n : Nat} {xs : List Value} (h : w.ownsRow 0 3 1 vf n xs) : Tagged (g.own vf (7, 0)) (7, 0) vf f := by
 intro _ k hk
 unfold Tag.own
 rw [if_pos]
 rcases h.2 with ⟨h', _⟩ | ⟨g', cap', cur, h', _⟩
 ·rw [h'] at hk; simp [Value.blk] at hk
 ·rw [h'] at hk ⊢; simpa [Value.blk, Value.ownBlock] using hk
def RupBegun (w : World) (C : Rup.Chk) (b : Nat) (w' : World) : Prop := ∃ g V, ChkAt w' g b V C ∧ (∀ k, k < w.heap.size → (g k).1 = 0) ∧ Only (fun _ => False) w w'
theorem RupBegun.mine {w' w2 : World} {g' : Tag} (h : ∀ k, k < w.heap.size → (g' k).1 = 0) (o : Only (fun _ => False) w w') (o2 : Only (Mine g') w' w2) : Only (fun _ => False) w w2 :=
 o.trans o2 fun i hi => by
  right
  rcases Nat.lt_or_ge i w.heap.size with c | c
  ·exact (hi (h i c)).elim
  ·exact c
theorem rup_new {wx : World} {ko kv N : Nat} (ho : wx.ownsRow 0 23 1 (.slice (some ⟨ko, 0, none⟩) (2 * N) (2 * N)) (2 * N) (List.replicate (2 * N) nilS)) (hv : wx.ownsRow 0 3 1 (.slice (some ⟨kv, 0, none⟩) N N) N (List.replicate N (.int .i64 0)))
  (hne : ko ≠ kv) (h1 : w.heap.size ≤ ko) (h2 : w.heap.size ≤ kv) (hO : Only (fun _ => False) w wx) :
  RupBegun w (Rup.Chk.zero N) wx.heap.size (wx.alloc (.cells #[.int .i64 (N : Int), .slice none 0 0, .slice none 0 0, .slice (some ⟨ko, 0, none⟩) (2 * N) (2 * N), .slice (some ⟨kv, 0, none⟩) N N, .slice none 0 0] 131)) := by
 have l1 := own_lt ho (k := ko) rfl
 have l2 := own_lt hv (k := kv) rfl
 have hs := hO.size
 refine ⟨fun k => if k = wx.heap.size then (1, 0) else if k = ko then (4, 0) else if k = kv then (5, 0) else (0, 0), { vc := nilS, vg := nilS, vo := .slice (some ⟨ko, 0, none⟩) (2 * N) (2 * N), vv := .slice (some ⟨kv, 0, none⟩) N N, vs := nilS, us := [], os := List.replicate (2 * N) nilS },
  ⟨heap_alloc_new _ _, if_pos rfl, Row.nil _ _ _ _, ⟨rfl, fun i hi => by simp [Rup.Chk.zero] at hi⟩, fun i hi => by simp [Rup.Chk.zero] at hi, Row.nil _ _ _ _, ?_, by simp [Rup.Chk.zero], fun p hp => ?_, ?_, Row.nil _ _ _ _, fun k hk => ?_⟩, fun k hk => ?_, hO.alloc _⟩
 ·refine ⟨by simpa using ho.alloc _, fun k hk => ?_⟩
  simp [Value.ownBlock] at hk
  subst hk
  show (if ko = wx.heap.size then (1, 0) else if ko = ko then (4, 0) else if ko = kv then (5, 0) else (0, 0)) = ((4, 0) : Nat × Nat)
  rw [if_neg (by omega), if_pos rfl]
 ·have : (List.replicate (2 * N) nilS).getD p nilS = nilS := by
   simp only [List.getD_eq_getElem?_getD, List.getElem?_replicate]
   split <;> rfl
  simp only [this]
  exact Row.nil _ _ _ _
 ·have hz : (Rup.valL N []).map cI = List.replicate N (.int .i64 0) := by
   apply List.ext_getElem
   ·simp [Rup.valL]
   ·intro i h1 h2
    simp [Rup.valL, Cnf.value, cI]
  show Row _ _ _ _ _ ((Rup.valL N []).map cI)
  rw [hz]
  refine ⟨by simpa using hv.alloc _, fun k hk => ?_⟩
  simp [Value.ownBlock] at hk
  subst hk
  show (if kv = wx.heap.size then (1, 0) else if kv = ko then (4, 0) else if kv = kv then (5, 0) else (0, 0)) = ((5, 0) : Nat × Nat)
  rw [if_neg (by omega), if_neg (by omega), if_pos rfl]
 ·simp at hk
  show ((if k = wx.heap.size then (1, 0) else if k = ko then (4, 0) else if k = kv then (5, 0) else (0, 0)) : Nat × Nat).1 = 0
  rw [if_neg (by omega), if_neg (by omega), if_neg (by omega)]
 ·show ((if k = wx.heap.size then (1, 0) else if k = ko then (4, 0) else if k = kv then (5, 0) else (0, 0)) : Nat × Nat).1 = 0
  rw [if_neg (by omega), if_neg (by omega), if_neg (by omega)]
theorem rup_new_A {wo wv : World} {N : Nat} (ro : wo.ownsRow 0 23 1 (.slice (some ⟨w.drew.heap.size, 0, none⟩) (2 * N) (2 * N)) (2 * N) (List.replicate (2 * N) nilS)) (oo : Only (fun _ => False) w.drew wo)
  (rv : wv.ownsRow 0 3 1 (.slice (some ⟨wo.heap.size, 0, none⟩) N N) N (List.replicate N (.int .i64 0))) (ov : Only (fun _ => False) wo wv) :
  RupBegun w (Rup.Chk.zero N) wv.heap.size (wv.alloc (.cells #[.int .i64 (N : Int), .slice none 0 0, .slice none 0 0, .slice (some ⟨w.heap.size, 0, none⟩) (2 * N) (2 * N), .slice (some ⟨wo.heap.size, 0, none⟩) N N, .slice none 0 0] 131)) := by
 have l1 := own_lt ro (k := w.heap.size) rfl
 exact rup_new (own_only ro ov (fun _ _ f => f)) rv (by omega) (Nat.le_refl _) (by omega) ((((Only.refl _ w).drew).same oo).same ov)
theorem rup_new_B {wo wv : World} {N : Nat} (ro : wo.ownsRow 0 23 1 (.slice (some ⟨wv.heap.size, 0, none⟩) (2 * N) (2 * N)) (2 * N) (List.replicate (2 * N) nilS)) (oo : Only (fun _ => False) wv wo)
  (rv : wv.ownsRow 0 3 1 (.slice (some ⟨w.drew.heap.size, 0, none⟩) N N) N (List.replicate N (.int .i64 0))) (ov : Only (fun _ => False) w.drew wv) :
  RupBegun w (Rup.Chk.zero N) wo.heap.size (wo.alloc (.cells #[.int .i64 (N : Int), .slice none 0 0, .slice none 0 0, .slice (some ⟨wv.heap.size, 0, none⟩) (2 * N) (2 * N), .slice (some ⟨w.heap.size, 0, none⟩) N N, .slice none 0 0] 131)) := by
 have l1 := own_lt rv (k := w.heap.size) rfl
 exact rup_new ro (own_only rv oo (fun _ _ f => f)) (by omega) (by omega) (Nat.le_refl _) ((((Only.refl _ w).drew).same ov).same oo)
set_option maxRecDepth 100000 in
set_option maxHeartbeats 3200000 in
theorem rup_begin_any {vcs : Value} {css : List (List Int)} (hI : IntsS w vcs css) (hb : css.length ≤ 100000) (hb2 : ∀ c ∈ css, c.length ≤ 1099511627776) (n : Int) (N : Nat) (hN : (N : Int) = min (max n 0) 65536) :
  Calls Tryz.prog 56 #[.int .i64 n, vcs] w fun e w' => ∃ b, e = .returned (.pointer (some ⟨b, 0, none⟩)) ∧ RupBegun w ((Rup.Chk.zero N).all css) b w' ∧ ((Rup.Chk.zero N).all css).Ok := by
 obtain ⟨ac, cc, rfl, hc1, hc2⟩ := hI.shape
 have hN1 : N ≤ 65536 := by omega
 have hmin : min (max n 0) 65536 = (N : Int) := hN.symm
 clear hN
 go_enter Tryz.func56, Tryz.ntmps56
 go_wp2_with fail
 have ew : IntKind.i64.wrap (2 * (N : Int)) = 2 * (N : Int) := IntWalk.i64_in _ (by omega)
 refine wp_region_held_drew (S := fun _ => True) (by kernel_rfl) trivial (fun hHeld => ?_)
 refine wpAnyH_take (i := 0) (v := ?_) rfl (by kernel_rfl) (by kernel_rfl) (by kernel_rfl) (fun _ _ _ h => h) (Or.inl ⟨by rfl, ?_⟩) (by assumption) ?_
 rotate_left
 ·(intro w hSw; (try dsimp only at hSw); go_simp <;> (try with_reducible rfl))
 try simp only [Act.put, zq1, zq3, zq4, zq5, zq6]
 refine wpAnyH_take (i := 1) (v := ?_) rfl (by kernel_rfl) (by kernel_rfl) (by kernel_rfl) (fun _ _ _ h => h) (Or.inl ⟨by rfl, ?_⟩) (by assumption) ?_
 rotate_left
 ·(intro w hSw; (try dsimp only at hSw); go_simp <;> (try with_reducible rfl))
 try simp only [Act.put, zq1, zq2, zq3, zq4, zq5, zq6]
 refine wpAnyH_take (i := 2) (v := ?_) rfl (by kernel_rfl) (by kernel_rfl) (by kernel_rfl) (fun _ _ _ h => h) (Or.inl ⟨by rfl, ?_⟩) (by assumption) ?_
 rotate_left
 ·(intro w hSw; (try dsimp only at hSw); go_simp <;> (try with_reducible rfl))
 try simp only [Act.put, zq1, zq2, zq3, zq4, zq5, zq6]
 refine wpAnyH_take (i := 4) (v := ?_) rfl (by kernel_rfl) (by kernel_rfl) (by kernel_rfl) (fun _ _ _ h => h) (Or.inl ⟨by rfl, ?_⟩) (by assumption) ?_
 rotate_left
 ·(intro w hSw; (try dsimp only at hSw); go_simp <;> (try with_reducible rfl))
 try simp only [Act.put, zq1, zq2, zq3, zq4, zq5, zq6]
 refine wpAnyH_ready (rs := [3, 5]) (by kernel_rfl) (by simp) ?_
 refine AllReadyH.cons (i := 3) rfl (fun K hK => ?_) ?_
 ·(refine stepM (bytes := 24) (z := nilS) Tryz.underlying22 (by kernel_rfl) rfl (by rfl) (.tmp 15) (.tmp 15) (by rfl) (2 * N) (by rfl) (by rfl) (by omega) (by omega) (by omega) (by decide) ?_; intro wo ro oo lo)
  refine hK.out _ _ ?_ (fun hHeld => ?_)
  ·(try dsimp only) <;> (trivial)
  clear hK K
  try simp only [Act.put, zq1, zq2, zq3, zq4, zq5, zq6]
  refine wpAnyH_ready (rs := [5]) (by kernel_rfl) (by simp) ?_
  refine AllReadyH.cons (i := 5) rfl (fun K hK => ?_) ?_
  ·(refine stepM (bytes := 8) (z := .int .i64 0) Tryz.underlying23 (by kernel_rfl) rfl (by rfl) (.tmp 17) (.tmp 17) (by rfl) N (by rfl) (by rfl) (by omega) (by omega) (by omega) (by decide) ?_; intro wv rv ov lv)
   refine hK.out _ _ ?_ (fun hHeld => ?_)
   ·(try dsimp only) <;> (trivial)
   clear hK K
   try simp only [Act.put, zq1, zq2, zq3, zq4, zq5, zq6]
   refine wpAnyH_take (i := 6) (v := ?_) rfl (by kernel_rfl) (by kernel_rfl) (by kernel_rfl) (fun _ _ _ h => h) (Or.inl ⟨by rfl, ?_⟩) (by assumption) ?_
   rotate_left
   ·(intro w hSw; (try dsimp only at hSw); go_simp <;> (try with_reducible rfl))
   try simp only [Act.put, zq1, zq2, zq3, zq4, zq5, zq6]
   refine wpAnyH_ready (rs := [7]) (by kernel_rfl) (by simp) ?_
   refine AllReadyH.cons (i := 7) rfl (fun K hK => ?_) ?_
   ·go_simp
    refine hK.out _ _ ?_ (fun hHeld => ?_)
    ·(try dsimp only) <;> (trivial)
    clear hK K
    try simp only [Act.put, zq1, zq2, zq3, zq4, zq5, zq6]
    refine wpAnyH_take (i := 8) (v := ?_) rfl (by kernel_rfl) (by kernel_rfl) (by kernel_rfl) (fun _ _ _ h => h) (Or.inl ⟨by rfl, ?_⟩) (by assumption) ?_
    rotate_left
    ·(intro w hSw; (try dsimp only at hSw); go_simp <;> (try with_reducible rfl))
    try simp only [Act.put, zq1, zq2, zq3, zq4, zq5, zq6]
    refine wpAnyH_done (by kernel_rfl) ?_ _
    have hbeg := rup_new_A ro oo rv ov
    have HBeg := Lib.hid hbeg
    have hok := Rup.Chk.zero_ok hN1
    have HOk := Lib.hid hok
    clear hbeg ro oo rv ov lo lv hok ew
    generalize hBB : wv.heap.size = B at *
    generalize hWW : (wv.alloc (Obj.cells #[.int .i64 (N : Int), .slice none 0 0, .slice none 0 0, .slice (some ⟨w.heap.size, 0, none⟩) (2 * N) (2 * N), .slice (some ⟨wo.heap.size, 0, none⟩) N N, .slice none 0 0] 131)) = W0 at *
    clear hBB hWW
    go_wp2_with fail
    go_loopw [23] (fun v wr => ∃ k : Nat, v = .int .i64 k ∧ k ≤ css.length ∧ RupBegun w ((Rup.Chk.zero N).all (css.take k)) B wr ∧ ((Rup.Chk.zero N).all (css.take k)).Ok) (fun v _ => css.length - (intOf v).toNat)
    case atStart => exact ⟨0, rfl, Nat.zero_le _, HBeg.out, HOk.out⟩
    case round =>
     clear HBeg
     obtain ⟨k, rfl, hk, hB, ok⟩ := hrel
     by_cases ck : k < css.length
     ·have hB2 := hB
      obtain ⟨g1, V1, H1, hcl, hO⟩ := hB
      obtain ⟨bc, oc, u, rfl, _, qc, hIu⟩ := (hI.only0 hO).at ck
      have hcm := getD_mem' [] ck
      have hcb := hb2 _ hcm
      have hnN : ((Rup.Chk.zero N).all (css.take k)).n = N := Rup.all_n _ _
      have hln := Rup.all_len (css.take k) (Rup.Chk.zero N)
      have hlk : (css.take k).length ≤ k := List.length_take_le _ _
      have hz0 : (Rup.Chk.zero N).cls.length = 0 := rfl
      have hcl2 : ((Rup.Chk.zero N).all (css.take k)).cls.length < 1000000 := by omega
      clear hz0
      have hts : css.take (k + 1) = css.take k ++ [css.getD k []] := by
       rw [List.take_succ_eq_append_getElem ck]; simp [List.getD_eq_getElem?_getD, ck]
      have hall : (Rup.Chk.zero N).all (css.take (k + 1)) = ((Rup.Chk.zero N).all (css.take k)).more (css.getD k []) := by rw [hts, Rup.all_snoc]
      have hrng := hIu.range
      have hokm := ok.more hrng hcl2
      have hF := rup_form_any H1 ok.n hIu hcb
      have HF := Lib.hid hF
      have HAll := Lib.hid hall
      have HOkm := Lib.hid hokm
      have HRng := Lib.hid hrng
      have HClr := Lib.hid hcl
      have HB2 := Lib.hid hB2
      clear hF hall hokm hrng hcl hts hln hlk hcm hB2
      generalize css.getD k [] = c at *
      generalize (Rup.Chk.zero N).all (css.take k) = C at *
      go_wp2_with fail
      refine HF.out.mono ?_
      intro e w1 hp
      unfold RupFormPost at hp
      cases hf : Rup.formR C.n c with
      | none =>
       rw [hf] at hp
       obtain ⟨rfl, O1⟩ := hp
       have hm : C.more c = C := by unfold Rup.Chk.more; rw [hf]
       have HM := Lib.hid hm
       clear hf hm
       go_wp2_with fail
       go_roundw
       case rel => exact ⟨k + 1, by go_num, by omega, by rw [HAll.out, HM.out]; exact ⟨g1, V1, H1.only0 O1, HClr.out, hO.same O1⟩, by rw [HAll.out]; exact HOkm.out⟩
       case measure => simp [intOf]; omega
      | some f =>
       rw [hf] at hp
       obtain ⟨vf, rfl, R1, N1, O1⟩ := hp
       have hm : C.more c = C.add f := by unfold Rup.Chk.more; rw [hf]
       have hfo := Rup.formR_ok HRng.out hf
       have hIf := Ints.of_own R1 (fun x hx => (hfo.2.1 x hx).r)
       have H2 := (H1.only0 O1).own (u := vf) (fun k hk => ⟨H1.fresh k (N1 k hk), own_lt R1 hk⟩)
       have hadd := rup_add_any H2 ok hIf (Tagged.own R1) hfo.1 hcl2
       have HAdd := Lib.hid hadd
       have HM := Lib.hid hm
       clear hf hm hadd hfo
       obtain ⟨af, cf, rfl, _, _⟩ := hIf.shape
       go_wp2_with fail
       refine HAdd.out.mono ?_
       rintro e w2 ⟨rfl, g2, V2, H3, A3, O3⟩
       have hclr2 : ∀ k, k < w.heap.size → (g2 k).1 = 0 := fun k hk => by
        have h1 := hO.size
        have h2 := O1.size
        rw [A3 k (by omega)]
        unfold Tag.own
        rw [if_neg]
        ·exact HClr.out k hk
        ·intro e; have := N1 k e; omega
       have hbeg2 : RupBegun w (C.add f) B w2 := by
        refine ⟨g2, V2, H3, hclr2, RupBegun.mine (g' := g1.own (.slice af f.length cf) (7, 0)) (fun k hk => ?_) (hO.same O1) O3⟩
        unfold Tag.own
        rw [if_neg]
        ·exact HClr.out k hk
        ·intro e; have := N1 k e; have := hO.size; omega
       have HB3 := Lib.hid hbeg2
       clear hbeg2 hclr2 H3 A3 O3
       go_wp2_with fail
       go_roundw
       case rel => exact ⟨k + 1, by go_num, by omega, by rw [HAll.out, HM.out]; exact HB3.out, by rw [HAll.out]; exact HOkm.out⟩
       case measure => simp [intOf]; omega
     ·have hk' : k = css.length := by omega
      have hfin : RupBegun w ((Rup.Chk.zero N).all css) B wr ∧ ((Rup.Chk.zero N).all css).Ok := by
       rw [hk', List.take_of_length_le (Nat.le_refl _)] at hB ok
       exact ⟨hB, ok⟩
      have HFin := Lib.hid hfin
      clear hfin hB ok
      go_wp2_with fail
      go_ret
      exact ⟨B, rfl, HFin.out⟩
   exact AllReadyH.nil
  exact AllReadyH.nil
 refine AllReadyH.cons (i := 5) rfl (fun K hK => ?_) ?_
 ·(refine stepM (bytes := 8) (z := .int .i64 0) Tryz.underlying23 (by kernel_rfl) rfl (by rfl) (.tmp 17) (.tmp 17) (by rfl) N (by rfl) (by rfl) (by omega) (by omega) (by omega) (by decide) ?_; intro wv rv ov lv)
  refine hK.out _ _ ?_ (fun hHeld => ?_)
  ·(try dsimp only) <;> (trivial)
  clear hK K
  try simp only [Act.put, zq1, zq2, zq3, zq4, zq5, zq6]
  refine wpAnyH_ready (rs := [3]) (by kernel_rfl) (by simp) ?_
  refine AllReadyH.cons (i := 3) rfl (fun K hK => ?_) ?_
  ·(refine stepM (bytes := 24) (z := nilS) Tryz.underlying22 (by kernel_rfl) rfl (by rfl) (.tmp 15) (.tmp 15) (by rfl) (2 * N) (by rfl) (by rfl) (by omega) (by omega) (by omega) (by decide) ?_; intro wo ro oo lo)
   refine hK.out _ _ ?_ (fun hHeld => ?_)
   ·(try dsimp only) <;> (trivial)
   clear hK K
   try simp only [Act.put, zq1, zq2, zq3, zq4, zq5, zq6]
   refine wpAnyH_take (i := 6) (v := ?_) rfl (by kernel_rfl) (by kernel_rfl) (by kernel_rfl) (fun _ _ _ h => h) (Or.inl ⟨by rfl, ?_⟩) (by assumption) ?_
   rotate_left
   ·(intro w hSw; (try dsimp only at hSw); go_simp <;> (try with_reducible rfl))
   try simp only [Act.put, zq1, zq2, zq3, zq4, zq5, zq6]
   refine wpAnyH_ready (rs := [7]) (by kernel_rfl) (by simp) ?_
   refine AllReadyH.cons (i := 7) rfl (fun K hK => ?_) ?_
   ·go_simp
    refine hK.out _ _ ?_ (fun hHeld => ?_)
    ·(try dsimp only) <;> (trivial)
    clear hK K
    try simp only [Act.put, zq1, zq2, zq3, zq4, zq5, zq6]
    refine wpAnyH_take (i := 8) (v := ?_) rfl (by kernel_rfl) (by kernel_rfl) (by kernel_rfl) (fun _ _ _ h => h) (Or.inl ⟨by rfl, ?_⟩) (by assumption) ?_
    rotate_left
    ·(intro w hSw; (try dsimp only at hSw); go_simp <;> (try with_reducible rfl))
    try simp only [Act.put, zq1, zq2, zq3, zq4, zq5, zq6]
    refine wpAnyH_done (by kernel_rfl) ?_ _
    have hbeg := rup_new_B ro oo rv ov
    have HBeg := Lib.hid hbeg
    have hok := Rup.Chk.zero_ok hN1
    have HOk := Lib.hid hok
    clear hbeg ro oo rv ov lo lv hok ew
    generalize hBB : wo.heap.size = B at *
    generalize hWW : (wo.alloc (Obj.cells #[.int .i64 (N : Int), .slice none 0 0, .slice none 0 0, .slice (some ⟨wv.heap.size, 0, none⟩) (2 * N) (2 * N), .slice (some ⟨w.heap.size, 0, none⟩) N N, .slice none 0 0] 131)) = W0 at *
    clear hBB hWW
    go_wp2_with fail
    go_loopw [23] (fun v wr => ∃ k : Nat, v = .int .i64 k ∧ k ≤ css.length ∧ RupBegun w ((Rup.Chk.zero N).all (css.take k)) B wr ∧ ((Rup.Chk.zero N).all (css.take k)).Ok) (fun v _ => css.length - (intOf v).toNat)
    case atStart => exact ⟨0, rfl, Nat.zero_le _, HBeg.out, HOk.out⟩
    case round =>
     clear HBeg
     obtain ⟨k, rfl, hk, hB, ok⟩ := hrel
     by_cases ck : k < css.length
     ·have hB2 := hB
      obtain ⟨g1, V1, H1, hcl, hO⟩ := hB
      obtain ⟨bc, oc, u, rfl, _, qc, hIu⟩ := (hI.only0 hO).at ck
      have hcm := getD_mem' [] ck
      have hcb := hb2 _ hcm
      have hnN : ((Rup.Chk.zero N).all (css.take k)).n = N := Rup.all_n _ _
      have hln := Rup.all_len (css.take k) (Rup.Chk.zero N)
      have hlk : (css.take k).length ≤ k := List.length_take_le _ _
      have hz0 : (Rup.Chk.zero N).cls.length = 0 := rfl
      have hcl2 : ((Rup.Chk.zero N).all (css.take k)).cls.length < 1000000 := by omega
      clear hz0
      have hts : css.take (k + 1) = css.take k ++ [css.getD k []] := by
       rw [List.take_succ_eq_append_getElem ck]; simp [List.getD_eq_getElem?_getD, ck]
      have hall : (Rup.Chk.zero N).all (css.take (k + 1)) = ((Rup.Chk.zero N).all (css.take k)).more (css.getD k []) := by rw [hts, Rup.all_snoc]
      have hrng := hIu.range
      have hokm := ok.more hrng hcl2
      have hF := rup_form_any H1 ok.n hIu hcb
      have HF := Lib.hid hF
      have HAll := Lib.hid hall
      have HOkm := Lib.hid hokm
      have HRng := Lib.hid hrng
      have HClr := Lib.hid hcl
      have HB2 := Lib.hid hB2
      clear hF hall hokm hrng hcl hts hln hlk hcm hB2
      generalize css.getD k [] = c at *
      generalize (Rup.Chk.zero N).all (css.take k) = C at *
      go_wp2_with fail
      refine HF.out.mono ?_
      intro e w1 hp
      unfold RupFormPost at hp
      cases hf : Rup.formR C.n c with
      | none =>
       rw [hf] at hp
       obtain ⟨rfl, O1⟩ := hp
       have hm : C.more c = C := by unfold Rup.Chk.more; rw [hf]
       have HM := Lib.hid hm
       clear hf hm
       go_wp2_with fail
       go_roundw
       case rel => exact ⟨k + 1, by go_num, by omega, by rw [HAll.out, HM.out]; exact ⟨g1, V1, H1.only0 O1, HClr.out, hO.same O1⟩, by rw [HAll.out]; exact HOkm.out⟩
       case measure => simp [intOf]; omega
      | some f =>
       rw [hf] at hp
       obtain ⟨vf, rfl, R1, N1, O1⟩ := hp
       have hm : C.more c = C.add f := by unfold Rup.Chk.more; rw [hf]
       have hfo := Rup.formR_ok HRng.out hf
       have hIf := Ints.of_own R1 (fun x hx => (hfo.2.1 x hx).r)
       have H2 := (H1.only0 O1).own (u := vf) (fun k hk => ⟨H1.fresh k (N1 k hk), own_lt R1 hk⟩)
       have hadd := rup_add_any H2 ok hIf (Tagged.own R1) hfo.1 hcl2
       have HAdd := Lib.hid hadd
       have HM := Lib.hid hm
       clear hf hm hadd hfo
       obtain ⟨af, cf, rfl, _, _⟩ := hIf.shape
       go_wp2_with fail
       refine HAdd.out.mono ?_
       rintro e w2 ⟨rfl, g2, V2, H3, A3, O3⟩
       have hclr2 : ∀ k, k < w.heap.size → (g2 k).1 = 0 := fun k hk => by
        have h1 := hO.size
        have h2 := O1.size
        rw [A3 k (by omega)]
        unfold Tag.own
        rw [if_neg]
        ·exact HClr.out k hk
        ·intro e; have := N1 k e; omega
       have hbeg2 : RupBegun w (C.add f) B w2 := by
        refine ⟨g2, V2, H3, hclr2, RupBegun.mine (g' := g1.own (.slice af f.length cf) (7, 0)) (fun k hk => ?_) (hO.same O1) O3⟩
        unfold Tag.own
        rw [if_neg]
        ·exact HClr.out k hk
        ·intro e; have := N1 k e; have := hO.size; omega
       have HB3 := Lib.hid hbeg2
       clear hbeg2 hclr2 H3 A3 O3
       go_wp2_with fail
       go_roundw
       case rel => exact ⟨k + 1, by go_num, by omega, by rw [HAll.out, HM.out]; exact HB3.out, by rw [HAll.out]; exact HOkm.out⟩
       case measure => simp [intOf]; omega
     ·have hk' : k = css.length := by omega
      have hfin : RupBegun w ((Rup.Chk.zero N).all css) B wr ∧ ((Rup.Chk.zero N).all css).Ok := by
       rw [hk', List.take_of_length_le (Nat.le_refl _)] at hB ok
       exact ⟨hB, ok⟩
      have HFin := Lib.hid hfin
      clear hfin hB ok
      go_wp2_with fail
      go_ret
      exact ⟨B, rfl, HFin.out⟩
   exact AllReadyH.nil
  exact AllReadyH.nil
 exact AllReadyH.nil
end
end Go.Proofs.YtjedgdamommgeaaGreat

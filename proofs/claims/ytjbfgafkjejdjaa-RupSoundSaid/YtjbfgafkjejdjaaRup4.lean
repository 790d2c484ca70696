/- The walks of package rup, fourth part: add. -/
import Derived.Test.YtjbfgafkjejdjaaRup3
import Derived.Test.YtjbfgafkjejdjaaRegion
namespace Go.Proofs.Ytjbfgafkjejdjaa
open Go.RowKit
attribute [local go_sem ↓] Go.wp_at_zero Go.wp_at_succ

theorem Row.keepB {w w2 : World} {g g2 : Tag} {t t0 : Nat × Nat} {e : TypeId} {v : Value} {xs : List Value} (hr : Row w g t e v xs) (o : Only (fun k => g k = t0) w w2) (ag : Agree w g g2) (hne : t ≠ t0) {p : Addr} (hp : g2 p.block ≠ t) (u : Value) :
    Row (w2.setCell p u) g2 t e v xs := Row.far (hr.keep o (fun k hk hF => hne (hk.symm.trans hF)) ag) hp u

theorem AllInts.keepB {w w2 : World} {g g2 : Tag} {us : List Value} {css : List (List Int)} (h : AllInts w us css) (ht : ∀ i, i < css.length → Tagged g (7, 0) (us.getD i nilS) (css.getD i [])) {t0 : Nat × Nat} (o : Only (fun k => g k = t0) w w2) (ag : Agree w g g2) (hne : (7, 0) ≠ t0)
    {p : Addr} (hp : g2 p.block ≠ (7, 0)) (u : Value) : AllInts (w2.setCell p u) us css ∧ ∀ i, i < css.length → Tagged g2 (7, 0) (us.getD i nilS) (css.getD i []) := by
  have h2 := h.keepT ht o (fun k hk hF => hne (hk.symm.trans hF))
  have ht2 : ∀ i, i < css.length → Tagged g2 (7, 0) (us.getD i nilS) (css.getD i []) := fun i hi => (ht i hi).agree (h.2 i hi) ag
  exact ⟨h2.keepT (F := fun k => k = p.block) ht2 (Only.setCell (Only.refl (fun k => k = p.block) w2) (p := p) (.inl rfl) _) (fun k hk hF => hp (by rw [← hF]; exact hk)), ht2⟩

section
variable {w : World} {g : Tag} {b : Nat} {V : RupV} {C : Rup.Chk}

theorem tb_ne {t : Nat × Nat} {g2 : Tag} (h : g2 b = (1, 0)) (ht : t.1 ≠ 1) : g2 b ≠ t := by
  intro e; rw [h] at e; rw [← e] at ht; exact ht rfl

theorem ChkAt.setC (H : ChkAt w g b V C) {w2 : World} {vc' : Value} {us' : List Value} {cls' : List (List Int)} {g2 : Tag} (ag : Agree w g g2) (fr : Fresh w2 g2) (o : Only (fun k => g k = (2, 0)) w w2) (hr : Row w2 g2 (2, 0) 22 vc' us')
    (hi : AllInts w2 us' cls') (ht : ∀ i, i < cls'.length → Tagged g2 (7, 0) (us'.getD i nilS) (cls'.getD i [])) : ChkAt (w2.setCell ⟨b, 1, none⟩ vc') g2 b { V with vc := vc', us := us' } { C with cls := cls' } := by
  have tb2 : g2 b = (1, 0) := (ag b (lt_block H.blk)).trans H.tb
  refine ⟨?_, tb2, Row.far hr (tb_ne tb2 (by decide)) _, ?_, ht, H.gn.keepB o ag (by decide) (tb_ne tb2 (by decide)) _, H.o.keepB o ag (by decide) (tb_ne tb2 (by decide)) _, H.ol, fun p hp => (H.oi p hp).keepB o ag (by simp) (tb_ne tb2 (by simp)) _,
    H.v.keepB o ag (by decide) (tb_ne tb2 (by decide)) _, H.s.keepB o ag (by decide) (tb_ne tb2 (by decide)) _, fr.more (by simp [World.setCell])⟩
  · rw [set_block (only_block H.blk o (by rw [H.tb]; decide))]; rfl
  · exact hi.keepT (F := fun k => k = b) ht (Only.setCell (Only.refl (fun k => k = b) w2) (p := ⟨b, 1, none⟩) (.inl rfl) _) (fun k hk hF => by rw [hF, tb2] at hk; simp at hk)

theorem ChkAt.setG (H : ChkAt w g b V C) {w2 : World} {vg' : Value} {gone' : List Bool} {g2 : Tag} (ag : Agree w g g2) (fr : Fresh w2 g2) (o : Only (fun k => g k = (3, 0)) w w2) (hr : Row w2 g2 (3, 0) 4 vg' (gone'.map Value.bool)) :
    ChkAt (w2.setCell ⟨b, 2, none⟩ vg') g2 b { V with vg := vg' } { C with gone := gone' } := by
  have tb2 : g2 b = (1, 0) := (ag b (lt_block H.blk)).trans H.tb
  have hc := H.ci.keepB H.ct o ag (by decide) (p := ⟨b, 2, none⟩) (tb_ne tb2 (by decide)) vg'
  refine ⟨?_, tb2, H.c.keepB o ag (by decide) (tb_ne tb2 (by decide)) _, hc.1, hc.2, Row.far hr (tb_ne tb2 (by decide)) _, H.o.keepB o ag (by decide) (tb_ne tb2 (by decide)) _, H.ol, fun p hp => (H.oi p hp).keepB o ag (by simp) (tb_ne tb2 (by simp)) _,
    H.v.keepB o ag (by decide) (tb_ne tb2 (by decide)) _, H.s.keepB o ag (by decide) (tb_ne tb2 (by decide)) _, fr.more (by simp [World.setCell])⟩
  rw [set_block (only_block H.blk o (by rw [H.tb]; decide))]; rfl

theorem getD_set_same {α : Type} {l : List α} {i : Nat} (h : i < l.length) (x d : α) : (l.set i x).getD i d = x := by
  simp [List.getD_eq_getElem?_getD, h]
theorem getD_set_other {α : Type} {l : List α} {i j : Nat} (h : i ≠ j) (x d : α) : (l.set i x).getD j d = l.getD j d := by
  simp [List.getD_eq_getElem?_getD, List.getElem?_set, h]

theorem ChkAt.setO (H : ChkAt w g b V C) {w2 : World} {v' : Value} {p go_ no co : Nat} {zs : List Int} {g2 : Tag} (hp : p < 2 * C.n) (hvo : V.vo = .slice (some ⟨go_, 0, none⟩) no co) (ag : Agree w g g2) (fr : Fresh w2 g2) (o : Only (fun k => g k = (8, p)) w w2)
    (hr : Row w2 g2 (8, p) 3 v' (zs.map cI)) :
    ChkAt (w2.setCell ⟨go_, p, none⟩ v') g2 b { V with os := V.os.set p v' } { C with of := fun q => if q = p then zs else C.of q } := by
  have tb2 : g2 b = (1, 0) := (ag b (lt_block H.blk)).trans H.tb
  have ho := H.o
  rw [hvo] at ho
  have hlt : go_ < w.heap.size := own_lt ho.own rfl
  have hgo : g go_ = (4, 0) := ho.tg go_ rfl
  have tg2 : g2 go_ = (4, 0) := (ag go_ hlt).trans hgo
  have hne : ∀ {t : Nat × Nat}, t.1 ≠ 4 → g2 go_ ≠ t := fun {t} h e => by rw [tg2] at e; rw [← e] at h; exact h rfl
  have hc := H.ci.keepB H.ct o ag (by simp) (p := ⟨go_, p, none⟩) (hne (by decide)) v'
  have hnb : b ≠ go_ := by intro e; have := H.tb; rw [e, hgo] at this; simp at this
  refine ⟨?_, tb2, H.c.keepB o ag (by simp) (hne (by decide)) _, hc.1, hc.2, H.gn.keepB o ag (by simp) (hne (by decide)) _, ?_, by simpa using H.ol, fun q hq => ?_,
    H.v.keepB o ag (by simp) (hne (by decide)) _, H.s.keepB o ag (by simp) (hne (by decide)) _, fr.more (by simp [World.setCell])⟩
  · rw [set_block_other (only_block H.blk o (by rw [H.tb]; simp)) hnb]
  · have h1 := (ho.keep o (fun k hk hF => by rw [hk] at hF; simp at hF) ag).store p v'
    rw [← hvo] at h1
    exact h1
  · by_cases e : q = p
    · subst e
      simp only [if_true]
      rw [getD_set_same (by rw [H.ol]; exact hq)]
      exact Row.far hr (hne (by simp)) _
    · simp only [if_neg e]
      rw [getD_set_other (fun h => e h.symm)]
      exact (H.oi q hq).keepB o ag (by simpa using e) (hne (by simp)) _

namespace Rup
/-- what the lists of a clause's literals hold when the first j are there -/
def ofTo (C : Chk) (f : List Int) (j q : Nat) : List Int := C.of q ++ if (f.take j).any (fun l => place (-l) == q) then [(C.cls.length : Int)] else []

def Chk.add (C : Chk) (f : List Int) : Chk := { C with cls := C.cls ++ [f], gone := C.gone ++ [false], of := ofTo C f f.length }

theorem ofTo_zero (C : Chk) (f : List Int) : ofTo C f 0 = C.of := by
  funext q; simp [ofTo]

theorem ofTo_succ {C : Chk} {f : List Int} {n : Nat} (hf : Up.Cls n f) {j : Nat} (hj : j < f.length) : ofTo C f (j + 1) = fun q => if q = place (-(f.getD j 0)) then C.of (place (-(f.getD j 0))) ++ [(C.cls.length : Int)] else ofTo C f j q := by
  have e : f.take (j + 1) = f.take j ++ [f.getD j 0] := take_snocI f j hj
  have e2 : f.getD j 0 = f[j] := by simp [List.getD_eq_getElem?_getD, hj]
  funext q
  unfold ofTo
  rw [e, List.any_append]
  by_cases hq : q = place (-(f.getD j 0))
  · rw [if_pos hq, if_pos (by simp [hq]), hq]
  · rw [if_neg hq]
    have : ([f.getD j 0].any fun l => place (-l) == q) = false := by
      simp only [List.any_cons, List.any_nil, Bool.or_false, beq_eq_false_iff_ne]
      exact fun h => hq h.symm
    rw [this, Bool.or_false]

theorem ofTo_new {C : Chk} {f : List Int} {n : Nat} (hf : Up.Cls n f) {j : Nat} (hj : j < f.length) : ofTo C f j (place (-(f.getD j 0))) = C.of (place (-(f.getD j 0))) := by
  have e2 : f.getD j 0 = f[j] := by simp [List.getD_eq_getElem?_getD, hj]
  unfold ofTo
  rw [if_neg, List.append_nil]
  rw [List.any_eq_true]
  rintro ⟨l, hl, h⟩
  have hl0 := (hf.lit l (List.mem_of_mem_take hl)).1
  have hx0 := (hf.lit _ (getD_mem' 0 hj)).1
  have := place_inj (x := -l) (y := -(f.getD j 0)) (by omega) (by omega) (by simpa using h)
  have hle : l = f.getD j 0 := by omega
  obtain ⟨i, hi, he⟩ := List.getElem_of_mem hl
  simp at hi he
  have := (List.pairwise_iff_getElem.1 hf.nod) i j (by omega) hj (by omega)
  rw [he, hle, e2] at this
  exact this rfl

theorem ofL_snoc (cls : List (List Int)) (f : List Int) (q : Nat) : ofL (cls ++ [f]) q = ofL cls q ++ if f.any (fun l => place (-l) == q) then [(cls.length : Int)] else [] := by
  unfold ofL ofN
  rw [List.length_append, List.length_singleton, List.range_succ, List.filter_append, List.map_append]
  congr 1
  · congr 1
    apply List.filter_congr
    intro k hk
    rw [getD_app_l _ _ _ (List.mem_range.1 hk)]
  · rw [List.filter_cons, getD_app_r _ _ _ (Nat.le_refl _)]
    simp only [Nat.sub_self, List.getD_cons_zero, List.filter_nil]
    split <;> simp

theorem Chk.Ok.add {C : Chk} (o : C.Ok) {f : List Int} (hf : Up.Cls C.n f) (hl : C.cls.length < 1000000) : (C.add f).Ok := by
  refine ⟨o.n, by simp [Chk.add, o.len], ?_, o.set, by simp [Chk.add]; omega, ?_⟩
  · intro c hc
    simp only [Chk.add, List.mem_append, List.mem_singleton] at hc
    rcases hc with hc | hc
    · exact o.cls c hc
    · subst hc; exact hf
  · intro p hp
    show ofTo C f f.length p = ofL (C.cls ++ [f]) p
    rw [ofL_snoc, ← o.of_ p hp, ofTo, List.take_of_length_le (Nat.le_refl _)]
end Rup

theorem slBool : SlT Try.prog 84 4 1 1 := SlT.mk' (z := .bool false) Try.underlying84 (by kernel_rfl) rfl (by decide)

/-- while the lists of a new clause grow -/
structure Adds (w : World) (g : Tag) (b : Nat) (C1 : Rup.Chk) (vf : Value) (f : List Int) (of : Nat → List Int) (wr : World) (g1 : Tag) (V1 : RupV) : Prop where
  at_ : ChkAt wr g1 b V1 { C1 with of := of }
  ag : Agree w g g1
  only : Only (Mine g) w wr
  fi : Ints wr vf f
  ft : Tagged g1 (7, 0) vf f

theorem Adds.step {C1 : Rup.Chk} {vf : Value} {f : List Int} {of : Nat → List Int} {wr w4 w5 : World} {g3 : Tag} {V3 : RupV} (hA : Adds w g b C1 vf f of wr g3 V3) {p go_ no co : Nat} {zs : List Int} {v' : Value} (hp : p < 2 * C1.n)
    (hvo : V3.vo = .slice (some ⟨go_, 0, none⟩) no co) (h4 : Only (fun k => g3 k = (8, p)) wr w4) (rr1 : Row w5 (Tag.put g3 w4.heap.size w5.heap.size (8, p)) (8, p) 3 v' (zs.map cI)) (rr2 : Only (fun k => g3 k = (8, p)) w4 w5) :
    ∃ g5 V5, Adds w g b C1 vf f (fun q => if q = p then zs else of q) (w5.setCell ⟨go_, p, none⟩ v') g5 V5 := by
  have o5 : Only (fun k => g3 k = (8, p)) wr w5 := h4.same rr2
  have ag : Agree wr g3 (Tag.put g3 w4.heap.size w5.heap.size (8, p)) := Agree.put g3 _ h4.size
  have fr : Fresh w5 (Tag.put g3 w4.heap.size w5.heap.size (8, p)) := Fresh.put (w := w4) (8, p) (hA.at_.fresh.more h4.size) rr2.size
  have H5 := hA.at_.setO hp hvo ag fr o5 rr1
  have ho := hA.at_.o
  rw [hvo] at ho
  have htg : g3 go_ = (4, 0) := ho.tg go_ rfl
  refine ⟨_, _, H5, hA.ag.trans ag hA.only.size, ?_, ?_, hA.ft.agree hA.fi ag⟩
  · refine hA.only.mine hA.ag ?_
    exact (o5.mono fun k hk => by unfold Mine; rw [hk]; simp).setCell (.inl (by unfold Mine; rw [htg]; simp)) _
  · have h1 := hA.fi.keepT hA.ft o5 (fun k hk hF => by rw [hk] at hF; simp at hF)
    exact h1.only' (F := fun k => k = go_) (Only.setCell (Only.refl (fun k => k = go_) w5) (p := ⟨go_, p, none⟩) (.inl rfl) _) (fun hpos k hk hF => by have := hA.ft hpos k hk; rw [hF, htg] at this; simp at this)

set_option maxRecDepth 100000 in
set_option maxHeartbeats 3200000 in
theorem rup_add_any (H : ChkAt w g b V C) (o : C.Ok) {vf : Value} {f : List Int} (hI : Ints w vf f) (hT : Tagged g (7, 0) vf f) (hf : Up.Cls C.n f) (hl : C.cls.length < 1000000) :
    Calls Try.prog 83 #[.pointer (some ⟨b, 0, none⟩), vf] w fun e w' => e = .returned (.tuple #[]) ∧ RupTo w g b (C.add f) w' := by
  have hn := o.n
  have hlen := o.len
  have q1 := H.f1
  obtain ⟨ac, cc, hvc, hc1, hc2⟩ := H.c.shape
  have hul : V.us.length = C.cls.length := H.ci.1
  have hrc := H.c
  rw [hvc, hul] at q1
  rw [hvc, hul] at hrc
  obtain ⟨af, cf, rfl, hf1, hf2⟩ := hI.shape
  have Hf := Lib.hid hf
  clear hf
  go_enter Try.func83, Try.ntmps83
  go_wp2_with (at_builtin; go_must (refine Row.app (u := .slice af f.length cf) slInts rfl (.tmp 16) (.tmp 18) rfl rfl rfl (cell_newE _ _ _ _ rfl) rfl (by exact Row.alloc hrc _) (by omega) (by decide) ?hK1))
  case hK1 =>
    intro v1 w1 r1 r2
    obtain ⟨g1b, cap1, rfl, -, -, -, -⟩ := r1.pos (by simp)
    have hl1 : (V.us ++ [Value.slice af f.length cf]).length = C.cls.length + 1 := by simp [hul]
    rw [hl1] at r1 ⊢
    clear hl1
    have A0 : Only (fun k => g k = (2, 0)) w (w.alloc (.cells #[.slice af f.length cf] 22)) := (Only.refl _ _).alloc _
    have O1 : Only (fun k => g k = (2, 0)) w w1 := A0.same r2
    have ag1 : Agree w g (Tag.put g (w.heap.size + 1) w1.heap.size (2, 0)) := Agree.put g _ (by omega)
    have fr1 : Fresh w1 (Tag.put g (w.heap.size + 1) w1.heap.size (2, 0)) := Fresh.put (2, 0) (H.fresh.more A0.size) r2.size
    have hI1 : Ints w1 (.slice af f.length cf) f := hI.keepT hT O1 (fun k hk hF => by rw [hk] at hF; simp at hF)
    have hT1 := hT.agree hI ag1
    have hci : AllInts w1 (V.us ++ [.slice af f.length cf]) (C.cls ++ [f]) := (H.ci.keepT H.ct O1 (fun k hk hF => by rw [hk] at hF; simp at hF)).snoc hI1
    have hct : ∀ i, i < (C.cls ++ [f]).length → Tagged (Tag.put g (w.heap.size + 1) w1.heap.size (2, 0)) (7, 0) ((V.us ++ [Value.slice af f.length cf]).getD i nilS) ((C.cls ++ [f]).getD i []) := by
      intro i hi
      by_cases hi' : i < C.cls.length
      · rw [getD_app_l _ _ _ (by omega), getD_app_l _ _ _ hi']
        exact (H.ct i hi').agree (H.ci.2 i hi') ag1
      · have : i = C.cls.length := by simp at hi; omega
        subst this
        rw [getD_app_r _ _ _ (by omega), getD_app_r _ _ _ (by omega), hul]
        simpa using hT1
    have H1 := H.setC ag1 fr1 O1 r1 hci hct
    have hb1 := only_block H.blk O1 (by rw [H.tb]; decide)
    have c1 : w1.cell? ⟨b, 1, none⟩ = some V.vc := by rw [cell_block hb1]; rfl
    have f1 := free_block hb1 1
    have hI1' : Ints (w1.setCell ⟨b, 1, none⟩ (.slice (some ⟨g1b, 0, none⟩) (C.cls.length + 1) cap1)) (.slice af f.length cf) f :=
      hI1.only' (F := fun k => k = b) (Only.setCell (Only.refl (fun k => k = b) w1) (p := ⟨b, 1, none⟩) (.inl rfl) _) (fun hp k hk hF => by have := hT hp k hk; rw [hF, H.tb] at this; simp at this)
    have O1' : Only (Mine g) w (w1.setCell ⟨b, 1, none⟩ (.slice (some ⟨g1b, 0, none⟩) (C.cls.length + 1) cap1)) :=
      (O1.mono fun k hk => by unfold Mine; rw [hk]; decide).setCell (.inl (by unfold Mine; rw [H.tb]; decide)) _
    generalize Tag.put g (w.heap.size + 1) w1.heap.size (2, 0) = g1 at *
    obtain ⟨ag_, cg, hvg, hg1, hg2⟩ := H1.gn.shape
    have hrg := H1.gn
    simp only at hvg hrg
    have q2 : w1.cell? ⟨b, 2, none⟩ = some V.vg := by rw [cell_block hb1]; rfl
    rw [hvg] at q2 hrg
    simp only [List.length_map, hlen] at q2 hrg
    clear hci hct hb1 O1 fr1 A0 r1 r2 hI1 hrc q1
    go_wp2_with (at_builtin; go_must (refine Row.app (u := .bool false) slBool rfl (.tmp 26) (.tmp 27) rfl rfl rfl (cell_newE _ _ _ _ (by simp [World.setCell])) rfl (by exact Row.alloc hrg _) (by simp; omega) (by decide) ?hK2))
    case hK2 =>
      intro v2 w2 r1 r2
      obtain ⟨g2b, cap2, rfl, -, -, -, -⟩ := r1.pos (by simp)
      have hl2 : (List.map Value.bool C.gone ++ [Value.bool false]).length = C.cls.length + 1 := by simp [hlen]
      rw [hl2] at r1 ⊢
      clear hl2
      generalize hW1 : w1.setCell ⟨b, 1, none⟩ (.slice (some ⟨g1b, 0, none⟩) (C.cls.length + 1) cap1) = W1 at *
      have hs1 : W1.heap.size = w1.heap.size := by rw [← hW1]; simp [World.setCell]
      clear hW1
      have A0 : Only (fun k => g1 k = (3, 0)) W1 (W1.alloc (.cells #[.bool false] 4)) := (Only.refl _ _).alloc _
      have O2 : Only (fun k => g1 k = (3, 0)) W1 w2 := A0.same r2
      have ag2 : Agree W1 g1 (Tag.put g1 (w1.heap.size + 1) w2.heap.size (3, 0)) := Agree.put g1 _ (by omega)
      have fr2 : Fresh w2 (Tag.put g1 (w1.heap.size + 1) w2.heap.size (3, 0)) := Fresh.put (3, 0) (H1.fresh.more A0.size) r2.size
      have hI2 : Ints w2 (.slice af f.length cf) f := hI1'.keepT hT1 O2 (fun k hk hF => by rw [hk] at hF; simp at hF)
      have hT2 := hT1.agree hI1' ag2
      have H2 := H1.setG ag2 fr2 O2 (gone' := C.gone ++ [false]) (by simpa using r1)
      have hb2 := only_block H1.blk O2 (by rw [H1.tb]; decide)
      have c2 : w2.cell? ⟨b, 2, none⟩ = some V.vg := by rw [cell_block hb2]; rfl
      have f2 := free_block hb2 2
      have hI2' : Ints (w2.setCell ⟨b, 2, none⟩ (.slice (some ⟨g2b, 0, none⟩) (C.cls.length + 1) cap2)) (.slice af f.length cf) f :=
        hI2.only' (F := fun k => k = b) (Only.setCell (Only.refl (fun k => k = b) w2) (p := ⟨b, 2, none⟩) (.inl rfl) _) (fun hp k hk hF => by have := hT1 hp k hk; rw [hF, H1.tb] at this; simp at this)
      have O2' : Only (Mine g1) W1 (w2.setCell ⟨b, 2, none⟩ (.slice (some ⟨g2b, 0, none⟩) (C.cls.length + 1) cap2)) :=
        (O2.mono fun k hk => by unfold Mine; rw [hk]; decide).setCell (.inl (by unfold Mine; rw [H1.tb]; decide)) _
      have hAdd : Adds w g b { C with cls := C.cls ++ [f], gone := C.gone ++ [false] } (.slice af f.length cf) f (Rup.ofTo C f 0) (w2.setCell ⟨b, 2, none⟩ (.slice (some ⟨g2b, 0, none⟩) (C.cls.length + 1) cap2)) (Tag.put g1 (w1.heap.size + 1) w2.heap.size (3, 0)) _ :=
        ⟨by rw [Rup.ofTo_zero]; exact H2, ag1.trans ag2 O1'.size, O1'.mine ag1 O2', hI2', hT2⟩
      have HA := Lib.hid hAdd
      clear hAdd O2' hI2' hb2 H2 hT2 hI2 fr2 ag2 O2 A0 hs1 r1 r2 hrg q2 hvg hg1 hg2 H1 hT1 ag1 O1' hI1' c1 f1 hI hT hvc hc1 hc2
      go_wp2_with fail
      go_loopw [33] (fun v wr => ∃ (j : Nat) (g3 : Tag) (V3 : RupV), v = .int .i64 j ∧ j ≤ f.length ∧ Adds w g b { C with cls := C.cls ++ [f], gone := C.gone ++ [false] } (.slice af f.length cf) f (Rup.ofTo C f j) wr g3 V3) (fun v _ => f.length - (intOf v).toNat)
      case atStart => exact ⟨0, _, _, rfl, Nat.zero_le _, HA.out⟩
      case round =>
        clear HA c2 f2
        obtain ⟨j, g3, V3, rfl, hj, hA⟩ := hrel
        by_cases cj : j < f.length
        · obtain ⟨bf, of_, rfl, _, hcs⟩ := hA.fi.cells _ _ _ rfl (by omega)
          have qx := hcs j cj
          have hx := Hf.out.lit _ (getD_mem' 0 cj)
          have hst := Rup.ofTo_succ (C := C) Hf.out cj
          have hnw := Rup.ofTo_new (C := C) Hf.out cj
          generalize f.getD j 0 = x at *
          have HST := Lib.hid hst
          have HNW := Lib.hid hnw
          clear hcs hst hnw
          have hnx : -x ≠ 0 ∧ (-x).natAbs ≤ C.n := by omega
          obtain ⟨nx, hnxe⟩ : ∃ nx, nx = -x := ⟨_, rfl⟩
          rw [← hnxe] at hnx HST HNW
          have hpl : Rup.place nx < 2 * C.n := Rup.place_lt hnx
          obtain ⟨p, hp⟩ : ∃ p, p = Rup.place nx := ⟨_, rfl⟩
          rw [← hp] at hpl HST HNW
          have hol : V3.os.length = 2 * C.n := hA.at_.ol
          obtain ⟨go_, capo, hvo, -, -, htgo, -⟩ := hA.at_.o.pos (by omega)
          have hro := hA.at_.o
          have q3 := hA.at_.f3
          rw [hvo, hol] at hro q3
          have qu := hro.cell nilS (i := p) (by omega)
          have fu := hro.free p
          have hru := hA.at_.oi p hpl
          simp only [HNW.out] at hru
          obtain ⟨au, cu, hvu, hu1, hu2⟩ := hru.shape
          rw [hvu] at qu hru
          simp only [List.length_map] at qu hru hvu hu1
          have hofl : (C.of p).length ≤ 1000000 := by
            rw [o.of_ p hpl, Rup.ofL, List.length_map, Rup.ofN]
            have := List.length_filter_le (fun k => (C.cls.getD k []).any fun l => Rup.place (-l) == p) (List.range C.cls.length)
            simp at this ⊢
            omega
          have ew : IntKind.i64.wrap (-x) = nx := by rw [hnxe]; exact IntWalk.i64_in _ (by omega)
          have HPl := Lib.hid hp
          have HNx := Lib.hid hnxe
          have HX := Lib.hid hx
          have pb1 : (0 : Int) ≤ (p : Int) := by omega
          have pb2 : (p : Int) < ((2 * C.n : Nat) : Int) := by omega
          generalize hm2 : 2 * C.n = m2 at *
          have HM2 := Lib.hid hm2.symm
          have HVO := Lib.hid hvo
          clear hp hnxe hx hj hm2 hvo
          have hk1 : ¬ g3 b = (8, p) := by rw [hA.at_.tb]; simp
          have hk2 : ¬ g3 go_ = (8, p) := by rw [htgo]; simp
          have HK1 := Lib.hid hk1
          have HK2 := Lib.hid hk2
          have lb := lt_block hA.at_.blk
          have lgo : go_ < wr.heap.size := World.block_lt_of_cell? wr _ qu
          clear hk1 hk2
          have hfz : ∀ o, (wr.alloc o).frozen? ⟨go_, p, none⟩ = false := fun o => free_keep qu fu ((Only.refl (fun _ => False) wr).alloc o) (fun f => f)
          have hS5 : ∀ o w5, Only (fun k => g3 k = (8, p)) (wr.alloc o).drew w5 → w5.cell? ⟨b, 3, none⟩ = some (.slice (some ⟨go_, 0, none⟩) m2 capo) ∧ w5.cell? ⟨go_, p, none⟩ = some (.slice au (C.of p).length cu) ∧ w5.frozen? ⟨go_, p, none⟩ = false := by
            intro o w5 h
            have hx5 : Only (fun k => g3 k = (8, p)) wr w5 := Only.same (((Only.refl _ wr).alloc o).drew) h
            exact ⟨cell_keep q3 hx5 HK1.out, cell_keep qu hx5 HK2.out, free_keep qu fu hx5 HK2.out⟩
          have HS5 := Lib.hid hS5
          clear hS5
          go_wp2_with fail
          refine wp_region_last (n := 20) (S := fun w' => w'.cell? ⟨b, 3, none⟩ = some (.slice (some ⟨go_, 0, none⟩) m2 capo) ∧ w'.cell? ⟨go_, p, none⟩ = some (.slice au (C.of p).length cu) ∧ w'.frozen? ⟨go_, p, none⟩ = false) (by kernel_rfl) rfl (by kernel_rfl) ⟨q3, qu, fu⟩ (fun hHeld => ?_)
          refine wpAnyH_take (i := 0) (v := ?_) rfl (by kernel_rfl) (by kernel_rfl) (by kernel_rfl) (fun _ _ _ h => h) (Or.inl ⟨by rfl, ?_⟩) (by assumption) ?_
          rotate_left
          · (intro w hSw; (try dsimp only at hSw); go_simp <;> (try with_reducible rfl))
          try simp only [Act.put, List.setIfInBounds_toArray, List.set_cons_zero, List.set_cons_succ]
          refine wpAnyH_take (i := 1) (v := ?_) rfl (by kernel_rfl) (by kernel_rfl) (by kernel_rfl) (fun _ _ _ h => h) (Or.inl ⟨by rfl, ?_⟩) (by assumption) ?_
          rotate_left
          · (intro w hSw; (try dsimp only at hSw); go_simp <;> (try with_reducible rfl))
          try simp only [Act.put, List.setIfInBounds_toArray, List.set_cons_zero, List.set_cons_succ]
          refine wpAnyH_take (i := 2) (v := ?_) rfl (by kernel_rfl) (by kernel_rfl) (by kernel_rfl) (fun _ _ _ h => h) (Or.inl ⟨by rfl, ?_⟩) (by assumption) ?_
          rotate_left
          · (intro w hSw; (try dsimp only at hSw); go_simp <;> (try with_reducible rfl))
          try simp only [Act.put, List.setIfInBounds_toArray, List.set_cons_zero, List.set_cons_succ]
          refine wpAnyH_take (i := 3) (v := ?_) rfl (by kernel_rfl) (by kernel_rfl) (by kernel_rfl) (fun _ _ _ h => h) (Or.inl ⟨by rfl, ?_⟩) (by assumption) ?_
          rotate_left
          · (intro w hSw; (try dsimp only at hSw); go_simp <;> (try with_reducible rfl))
          try simp only [Act.put, List.setIfInBounds_toArray, List.set_cons_zero, List.set_cons_succ]
          refine wpAnyH_take (i := 4) (v := ?_) rfl (by kernel_rfl) (by kernel_rfl) (by kernel_rfl) (fun _ _ _ h => h) (Or.inl ⟨by rfl, ?_⟩) (by assumption) ?_
          rotate_left
          · (intro w hSw; (try dsimp only at hSw); go_simp <;> (try with_reducible rfl))
          try simp only [Act.put, List.setIfInBounds_toArray, List.set_cons_zero, List.set_cons_succ]
          refine wpAnyH_take (i := 5) (v := ?_) rfl (by kernel_rfl) (by kernel_rfl) (by kernel_rfl) (fun _ _ _ h => h) (Or.inl ⟨by rfl, ?_⟩) (by assumption) ?_
          rotate_left
          · (intro w hSw; (try dsimp only at hSw); go_simp <;> (try with_reducible rfl))
          try simp only [Act.put, List.setIfInBounds_toArray, List.set_cons_zero, List.set_cons_succ]
          refine wpAnyH_take (i := 7) (v := ?_) rfl (by kernel_rfl) (by kernel_rfl) (by kernel_rfl) (fun _ _ _ h => h) (Or.inl ⟨by rfl, ?_⟩) (by assumption) ?_
          rotate_left
          · (intro w hSw; (try dsimp only at hSw); go_simp <;> (try with_reducible rfl))
          try simp only [Act.put, List.setIfInBounds_toArray, List.set_cons_zero, List.set_cons_succ]
          refine wpAnyH_take (i := 8) (v := ?_) rfl (by kernel_rfl) (by kernel_rfl) (by kernel_rfl) (fun _ _ _ h => h) (Or.inl ⟨by rfl, ?_⟩) (by assumption) ?_
          rotate_left
          · (intro w hSw; (try dsimp only at hSw); go_simp <;> (try with_reducible rfl))
          try simp only [Act.put, List.setIfInBounds_toArray, List.set_cons_zero, List.set_cons_succ]
          refine wpAnyH_take (i := 9) (v := ?_) rfl (by kernel_rfl) (by kernel_rfl) (by kernel_rfl) (fun _ _ _ h => h) (Or.inl ⟨by rfl, ?_⟩) (by assumption) ?_
          rotate_left
          · (intro w hSw; (try dsimp only at hSw); go_simp <;> (try with_reducible rfl))
          try simp only [Act.put, List.setIfInBounds_toArray, List.set_cons_zero, List.set_cons_succ]
          refine wpAnyH_take (i := 10) (v := ?_) rfl (by kernel_rfl) (by kernel_rfl) (by kernel_rfl) (fun _ _ _ h => h) (Or.inl ⟨by rfl, ?_⟩) (by assumption) ?_
          rotate_left
          · (intro w hSw; (try dsimp only at hSw); go_simp <;> (try with_reducible rfl))
          try simp only [Act.put, List.setIfInBounds_toArray, List.set_cons_zero, List.set_cons_succ]
          refine wpAnyH_take (i := 11) (v := ?_) rfl (by kernel_rfl) (by kernel_rfl) (by kernel_rfl) (fun _ _ _ h => h) (Or.inl ⟨by rfl, ?_⟩) (by assumption) ?_
          rotate_left
          · (intro w hSw; (try dsimp only at hSw); go_simp <;> (try with_reducible rfl))
          try simp only [Act.put, List.setIfInBounds_toArray, List.set_cons_zero, List.set_cons_succ]
          refine wpAnyH_take (i := 12) (v := ?_) rfl (by kernel_rfl) (by kernel_rfl) (by kernel_rfl) (fun _ _ _ h => h) (Or.inl ⟨by rfl, ?_⟩) (by assumption) ?_
          rotate_left
          · (intro w hSw; (try dsimp only at hSw); go_simp <;> (try with_reducible rfl))
          try simp only [Act.put, List.setIfInBounds_toArray, List.set_cons_zero, List.set_cons_succ]
          refine wpAnyH_take (i := 16) (v := ?_) rfl (by kernel_rfl) (by kernel_rfl) (by kernel_rfl) (fun _ _ _ h => h) (Or.inl ⟨by rfl, ?_⟩) (by assumption) ?_
          rotate_left
          · (intro w hSw; (try dsimp only at hSw); go_simp <;> (try with_reducible rfl))
          try simp only [Act.put, List.setIfInBounds_toArray, List.set_cons_zero, List.set_cons_succ]
          refine wpAnyH_ready (rs := [6, 17]) (by kernel_rfl) (by simp) ?_
          refine AllReadyH.cons (i := 6) rfl (fun K hK => ?_) ?_
          · go_simp
            (refine (rup_place_any nx C.n hn hnx (p : Int) (by rw [HPl.out])).mono ?_; rintro e w' ⟨rfl, rfl⟩)
            try go_wp2_with fail
            refine hK.out _ _ ?_ (fun hHeld => ?_)
            · (try dsimp only); (first | (go_keep; done) | exact HS5.out _ _ rr2)
            clear hK K
            try simp only [Act.put, List.setIfInBounds_toArray, List.set_cons_zero, List.set_cons_succ]
            refine wpAnyH_ready (rs := [13, 17]) (by kernel_rfl) (by simp) ?_
            refine AllReadyH.cons (i := 13) rfl (fun K hK => ?_) ?_
            · go_simp
              (refine (rup_place_any nx C.n hn hnx (p : Int) (by rw [HPl.out])).mono ?_; rintro e w' ⟨rfl, rfl⟩)
              try go_wp2_with fail
              refine hK.out _ _ ?_ (fun hHeld => ?_)
              · (try dsimp only); (first | (go_keep; done) | exact HS5.out _ _ rr2)
              clear hK K
              try simp only [Act.put, List.setIfInBounds_toArray, List.set_cons_zero, List.set_cons_succ]
              refine wpAnyH_take (i := 14) (v := ?_) rfl (by kernel_rfl) (by kernel_rfl) (by kernel_rfl) (fun _ _ _ h => h) (Or.inl ⟨by rfl, ?_⟩) (by assumption) ?_
              rotate_left
              · (intro w hSw; (try dsimp only at hSw); go_simp <;> (try with_reducible rfl))
              try simp only [Act.put, List.setIfInBounds_toArray, List.set_cons_zero, List.set_cons_succ]
              refine wpAnyH_take (i := 15) (v := ?_) rfl (by kernel_rfl) (by kernel_rfl) (by kernel_rfl) (fun _ _ _ h => h) (Or.inl ⟨by rfl, ?_⟩) (by assumption) ?_
              rotate_left
              · (intro w hSw; (try dsimp only at hSw); go_simp <;> (try with_reducible rfl))
              try simp only [Act.put, List.setIfInBounds_toArray, List.set_cons_zero, List.set_cons_succ]
              refine wpAnyH_ready (rs := [17]) (by kernel_rfl) (by simp) ?_
              refine AllReadyH.cons (i := 17) rfl (fun K hK => ?_) ?_
              · go_simp
                refine hK.out _ _ ?_ (fun hHeld => ?_)
                · (try dsimp only); (first | (go_keep; done) | exact HS5.out _ _ rr2)
                clear hK K
                try simp only [Act.put, List.setIfInBounds_toArray, List.set_cons_zero, List.set_cons_succ]
                refine wpAnyH_ready (rs := [18]) (by kernel_rfl) (by simp) ?_
                refine AllReadyH.cons (i := 18) rfl (fun K hK => ?_) ?_
                · (refine Row.step (u := .int .i64 (C.cls.length : Int)) slInt (by rfl) (.tmp 52) (.tmp 54) (by rfl) (by rfl) (by rfl) (by simp) rfl (by repeat (first | exact hru | apply Row.drew | apply Row.alloc | apply Row.drewN)) (by simp; omega) (by decide) ?_; intro bb cap w5 rr1 rr2)
                  refine hK.out _ _ ?_ (fun hHeld => ?_)
                  · (try dsimp only); (first | (go_keep; done) | exact HS5.out _ _ rr2)
                  clear hK K
                  try simp only [Act.put, List.setIfInBounds_toArray, List.set_cons_zero, List.set_cons_succ]
                  refine wpAnyH_take (i := 19) (v := ?_) rfl (by kernel_rfl) (by kernel_rfl) (by kernel_rfl) (fun _ _ _ h => h) (Or.inl ⟨by rfl, ?_⟩) (by assumption) ?_
                  rotate_left
                  · (intro w hSw; (try dsimp only at hSw); go_simp <;> (try with_reducible rfl))
                  try simp only [Act.put, List.setIfInBounds_toArray, List.set_cons_zero, List.set_cons_succ]
                  refine wpAnyH_done (by kernel_rfl) ?_ _
                  show wpList _ _ _ _ _ _
                  obtain ⟨c3, c4, c5⟩ := hHeld
                  obtain ⟨g5, V5, hA5⟩ := hA.step (zs := C.of p ++ [(C.cls.length : Int)]) (by rw [← HM2.out]; exact hpl) HVO.out (by repeat (first | exact Only.refl _ wr | apply Only.drew | apply Only.alloc | apply Only.drewN)) (by simpa [cI] using rr1) rr2
                  simp only [List.length_map] at hA5 c3 c4 c5 ⊢
                  have HA5 := Lib.hid hA5
                  clear hA5 rr1 rr2 hA hru q3 qu fu hfz HS5
                  go_wp2_with fail
                  go_roundw
                  case rel => exact ⟨j + 1, g5, V5, by go_num, by omega, by rw [HST.out]; exact HA5.out⟩
                  case measure => simp [intOf]; omega
                exact AllReadyH.nil
              exact AllReadyH.nil
            refine AllReadyH.cons (i := 17) rfl (fun K hK => ?_) ?_
            · go_simp
              refine hK.out _ _ ?_ (fun hHeld => ?_)
              · (try dsimp only); (first | (go_keep; done) | exact HS5.out _ _ rr2)
              clear hK K
              try simp only [Act.put, List.setIfInBounds_toArray, List.set_cons_zero, List.set_cons_succ]
              refine wpAnyH_ready (rs := [13]) (by kernel_rfl) (by simp) ?_
              refine AllReadyH.cons (i := 13) rfl (fun K hK => ?_) ?_
              · go_simp
                (refine (rup_place_any nx C.n hn hnx (p : Int) (by rw [HPl.out])).mono ?_; rintro e w' ⟨rfl, rfl⟩)
                try go_wp2_with fail
                refine hK.out _ _ ?_ (fun hHeld => ?_)
                · (try dsimp only); (first | (go_keep; done) | exact HS5.out _ _ rr2)
                clear hK K
                try simp only [Act.put, List.setIfInBounds_toArray, List.set_cons_zero, List.set_cons_succ]
                refine wpAnyH_take (i := 14) (v := ?_) rfl (by kernel_rfl) (by kernel_rfl) (by kernel_rfl) (fun _ _ _ h => h) (Or.inl ⟨by rfl, ?_⟩) (by assumption) ?_
                rotate_left
                · (intro w hSw; (try dsimp only at hSw); go_simp <;> (try with_reducible rfl))
                try simp only [Act.put, List.setIfInBounds_toArray, List.set_cons_zero, List.set_cons_succ]
                refine wpAnyH_take (i := 15) (v := ?_) rfl (by kernel_rfl) (by kernel_rfl) (by kernel_rfl) (fun _ _ _ h => h) (Or.inl ⟨by rfl, ?_⟩) (by assumption) ?_
                rotate_left
                · (intro w hSw; (try dsimp only at hSw); go_simp <;> (try with_reducible rfl))
                try simp only [Act.put, List.setIfInBounds_toArray, List.set_cons_zero, List.set_cons_succ]
                refine wpAnyH_ready (rs := [18]) (by kernel_rfl) (by simp) ?_
                refine AllReadyH.cons (i := 18) rfl (fun K hK => ?_) ?_
                · (refine Row.step (u := .int .i64 (C.cls.length : Int)) slInt (by rfl) (.tmp 52) (.tmp 54) (by rfl) (by rfl) (by rfl) (by simp) rfl (by repeat (first | exact hru | apply Row.drew | apply Row.alloc | apply Row.drewN)) (by simp; omega) (by decide) ?_; intro bb cap w5 rr1 rr2)
                  refine hK.out _ _ ?_ (fun hHeld => ?_)
                  · (try dsimp only); (first | (go_keep; done) | exact HS5.out _ _ rr2)
                  clear hK K
                  try simp only [Act.put, List.setIfInBounds_toArray, List.set_cons_zero, List.set_cons_succ]
                  refine wpAnyH_take (i := 19) (v := ?_) rfl (by kernel_rfl) (by kernel_rfl) (by kernel_rfl) (fun _ _ _ h => h) (Or.inl ⟨by rfl, ?_⟩) (by assumption) ?_
                  rotate_left
                  · (intro w hSw; (try dsimp only at hSw); go_simp <;> (try with_reducible rfl))
                  try simp only [Act.put, List.setIfInBounds_toArray, List.set_cons_zero, List.set_cons_succ]
                  refine wpAnyH_done (by kernel_rfl) ?_ _
                  show wpList _ _ _ _ _ _
                  obtain ⟨c3, c4, c5⟩ := hHeld
                  obtain ⟨g5, V5, hA5⟩ := hA.step (zs := C.of p ++ [(C.cls.length : Int)]) (by rw [← HM2.out]; exact hpl) HVO.out (by repeat (first | exact Only.refl _ wr | apply Only.drew | apply Only.alloc | apply Only.drewN)) (by simpa [cI] using rr1) rr2
                  simp only [List.length_map] at hA5 c3 c4 c5 ⊢
                  have HA5 := Lib.hid hA5
                  clear hA5 rr1 rr2 hA hru q3 qu fu hfz HS5
                  go_wp2_with fail
                  go_roundw
                  case rel => exact ⟨j + 1, g5, V5, by go_num, by omega, by rw [HST.out]; exact HA5.out⟩
                  case measure => simp [intOf]; omega
                exact AllReadyH.nil
              exact AllReadyH.nil
            exact AllReadyH.nil
          refine AllReadyH.cons (i := 17) rfl (fun K hK => ?_) ?_
          · go_simp
            refine hK.out _ _ ?_ (fun hHeld => ?_)
            · (try dsimp only); (first | (go_keep; done) | exact HS5.out _ _ rr2)
            clear hK K
            try simp only [Act.put, List.setIfInBounds_toArray, List.set_cons_zero, List.set_cons_succ]
            refine wpAnyH_ready (rs := [6]) (by kernel_rfl) (by simp) ?_
            refine AllReadyH.cons (i := 6) rfl (fun K hK => ?_) ?_
            · go_simp
              (refine (rup_place_any nx C.n hn hnx (p : Int) (by rw [HPl.out])).mono ?_; rintro e w' ⟨rfl, rfl⟩)
              try go_wp2_with fail
              refine hK.out _ _ ?_ (fun hHeld => ?_)
              · (try dsimp only); (first | (go_keep; done) | exact HS5.out _ _ rr2)
              clear hK K
              try simp only [Act.put, List.setIfInBounds_toArray, List.set_cons_zero, List.set_cons_succ]
              refine wpAnyH_ready (rs := [13]) (by kernel_rfl) (by simp) ?_
              refine AllReadyH.cons (i := 13) rfl (fun K hK => ?_) ?_
              · go_simp
                (refine (rup_place_any nx C.n hn hnx (p : Int) (by rw [HPl.out])).mono ?_; rintro e w' ⟨rfl, rfl⟩)
                try go_wp2_with fail
                refine hK.out _ _ ?_ (fun hHeld => ?_)
                · (try dsimp only); (first | (go_keep; done) | exact HS5.out _ _ rr2)
                clear hK K
                try simp only [Act.put, List.setIfInBounds_toArray, List.set_cons_zero, List.set_cons_succ]
                refine wpAnyH_take (i := 14) (v := ?_) rfl (by kernel_rfl) (by kernel_rfl) (by kernel_rfl) (fun _ _ _ h => h) (Or.inl ⟨by rfl, ?_⟩) (by assumption) ?_
                rotate_left
                · (intro w hSw; (try dsimp only at hSw); go_simp <;> (try with_reducible rfl))
                try simp only [Act.put, List.setIfInBounds_toArray, List.set_cons_zero, List.set_cons_succ]
                refine wpAnyH_take (i := 15) (v := ?_) rfl (by kernel_rfl) (by kernel_rfl) (by kernel_rfl) (fun _ _ _ h => h) (Or.inl ⟨by rfl, ?_⟩) (by assumption) ?_
                rotate_left
                · (intro w hSw; (try dsimp only at hSw); go_simp <;> (try with_reducible rfl))
                try simp only [Act.put, List.setIfInBounds_toArray, List.set_cons_zero, List.set_cons_succ]
                refine wpAnyH_ready (rs := [18]) (by kernel_rfl) (by simp) ?_
                refine AllReadyH.cons (i := 18) rfl (fun K hK => ?_) ?_
                · (refine Row.step (u := .int .i64 (C.cls.length : Int)) slInt (by rfl) (.tmp 52) (.tmp 54) (by rfl) (by rfl) (by rfl) (by simp) rfl (by repeat (first | exact hru | apply Row.drew | apply Row.alloc | apply Row.drewN)) (by simp; omega) (by decide) ?_; intro bb cap w5 rr1 rr2)
                  refine hK.out _ _ ?_ (fun hHeld => ?_)
                  · (try dsimp only); (first | (go_keep; done) | exact HS5.out _ _ rr2)
                  clear hK K
                  try simp only [Act.put, List.setIfInBounds_toArray, List.set_cons_zero, List.set_cons_succ]
                  refine wpAnyH_take (i := 19) (v := ?_) rfl (by kernel_rfl) (by kernel_rfl) (by kernel_rfl) (fun _ _ _ h => h) (Or.inl ⟨by rfl, ?_⟩) (by assumption) ?_
                  rotate_left
                  · (intro w hSw; (try dsimp only at hSw); go_simp <;> (try with_reducible rfl))
                  try simp only [Act.put, List.setIfInBounds_toArray, List.set_cons_zero, List.set_cons_succ]
                  refine wpAnyH_done (by kernel_rfl) ?_ _
                  show wpList _ _ _ _ _ _
                  obtain ⟨c3, c4, c5⟩ := hHeld
                  obtain ⟨g5, V5, hA5⟩ := hA.step (zs := C.of p ++ [(C.cls.length : Int)]) (by rw [← HM2.out]; exact hpl) HVO.out (by repeat (first | exact Only.refl _ wr | apply Only.drew | apply Only.alloc | apply Only.drewN)) (by simpa [cI] using rr1) rr2
                  simp only [List.length_map] at hA5 c3 c4 c5 ⊢
                  have HA5 := Lib.hid hA5
                  clear hA5 rr1 rr2 hA hru q3 qu fu hfz HS5
                  go_wp2_with fail
                  go_roundw
                  case rel => exact ⟨j + 1, g5, V5, by go_num, by omega, by rw [HST.out]; exact HA5.out⟩
                  case measure => simp [intOf]; omega
                exact AllReadyH.nil
              exact AllReadyH.nil
            exact AllReadyH.nil
          exact AllReadyH.nil
        · have hj' : j = f.length := by omega
          have hfin : RupTo w g b (C.add f) wr := ⟨g3, V3, by rw [hj'] at hA; exact hA.at_, hA.ag, hA.only⟩
          have HF := Lib.hid hfin
          clear hfin hA
          go_wp2_with fail
          go_end0
          exact ⟨rfl, HF.out⟩
end
end Go.Proofs.Ytjbfgafkjejdjaa

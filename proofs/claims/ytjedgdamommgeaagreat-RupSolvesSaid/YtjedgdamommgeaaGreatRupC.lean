/- Rup7 Rup8, in one text. -/
import Derived.Test.YtjedgdamommgeaaGreatRupB
set_option linter.unusedVariables false
namespace Go.Proofs.YtjedgdamommgeaaGreat
open Go.RowKit
namespace Rup
def Chk.step (C : Chk) (p : Bool × List Int) : Option Chk :=
 match formR C.n p.2 with
 | none => none
 | some f => if p.1 then (if (C.dropK f C.cls.length).isSome then some (C.dropR f) else none)
  else if (Up.conf C.n C.live (f.map fun x => -x)).2 then some (C.add f) else none
def Chk.run (C : Chk) : List (Bool × List Int) → Option Chk
 | [] => some C
 | p :: r => match C.step p with
  | none => none
  | some C' => C'.run r
def Chk.bad (C : Chk) : List (Bool × List Int) → Nat → Int
 | [], _ => -1
 | p :: r, i => match C.step p with
  | none => i
  | some C' => C'.bad r (i + 1)
theorem dropR_n (C : Chk) (f : List Int) : (C.dropR f).n = C.n := by unfold Chk.dropR; split <;> rfl
theorem dropR_set (C : Chk) (f : List Int) : (C.dropR f).set = C.set := by unfold Chk.dropR; split <;> rfl
theorem dropR_cls (C : Chk) (f : List Int) : (C.dropR f).cls = C.cls := by unfold Chk.dropR; split <;> rfl
structure Chk.Rest (C : Chk) (m : Nat) : Prop where
 ok : C.Ok
 set : C.set = []
 few : C.cls.length + m ≤ 1000000
theorem Chk.Rest.step {C C' : Chk} {m : Nat} (h : C.Rest (m + 1)) {p : Bool × List Int} (hr : ∀ x ∈ p.2, InI64 x) (hs : C.step p = some C') : C'.Rest m ∧ C'.n = C.n := by
 unfold Chk.step at hs
 have hf := h.few
 cases hfm : formR C.n p.2 with
 | none => rw [hfm] at hs; cases hs
 | some f =>
  rw [hfm] at hs
  have hfo := formR_ok hr hfm
  simp only at hs
  split at hs
  ·split at hs
   ·simp at hs; subst hs
    exact ⟨⟨h.ok.dropR f, by rw [dropR_set]; exact h.set, by rw [dropR_cls]; omega⟩, dropR_n C f⟩
   ·cases hs
  ·split at hs
   ·simp at hs; subst hs
    exact ⟨⟨h.ok.add hfo.1 (by omega), h.set, by simp [Chk.add]; omega⟩, rfl⟩
   ·cases hs
end Rup
structure StepsAt (w : World) (v : Value) (ps : List (Bool × List Int)) : Prop where
 shape : ∃ ao cap, v = .slice ao ps.length cap ∧ ps.length ≤ cap ∧ cap ≤ 9223372036854775807
 cells : ∀ ao len cap, v = .slice ao len cap → 0 < ps.length → ∃ (b off : Nat) (us : Nat → Value), ao = some ⟨b, off, none⟩ ∧ b < w.heap.size ∧ ∀ i, i < ps.length →
  w.cell? ⟨b, off + i * 2, none⟩ = some (.bool (ps.getD i (false, [])).1) ∧ w.cell? ⟨b, off + i * 2 + 1, none⟩ = some (us i) ∧ Ints w (us i) (ps.getD i (false, [])).2
theorem StepsAt.only0 {w w' : World} {v : Value} {ps : List (Bool × List Int)} (h : StepsAt w v ps) (ho : Only (fun _ => False) w w') : StepsAt w' v ps := by
 refine ⟨h.shape, fun ao len cap hv hp => ?_⟩
 obtain ⟨b, off, us, rfl, hb, hc⟩ := h.cells ao len cap hv hp
 refine ⟨b, off, us, rfl, Nat.lt_of_lt_of_le hb ho.size, fun i hi => ?_⟩
 obtain ⟨h1, h2, h3⟩ := hc i hi
 exact ⟨cell_keep h1 ho (fun f => f), cell_keep h2 ho (fun f => f), h3.only0 ho⟩
section
variable {w : World} {g : Tag} {b : Nat} {V : RupV} {C : Rup.Chk}
theorem Ints.blk_own {v : Value} {f : List Int} {n : Nat} {xs : List Value} (h : w.ownsRow 0 3 1 v n xs) {k : Nat} (hk : Value.blk v = some k) : v.ownBlock = some k := by
 rcases h.2 with ⟨h', _⟩ | ⟨g', cap', cur, h', _⟩
 ·rw [h'] at hk; simp [Value.blk] at hk
 ·rw [h'] at hk ⊢; simpa [Value.blk, Value.ownBlock] using hk
def StepTo (w : World) (g : Tag) (b : Nat) (C : Rup.Chk) (p : Bool × List Int) (e : Ending) (w' : World) : Prop :=
 match C.step p with
 | none => e = .returned (.bool false) ∧ RupTo w g b C w'
 | some C' => e = .returned (.bool true) ∧ RupTo w g b C' w'
set_option maxHeartbeats 1600000 in
theorem rup_step_any (H : ChkAt w g b V C) {m : Nat} (R : C.Rest (m + 1)) (p : Bool × List Int) {vc : Value} (hI : Ints w vc p.2) (hb : p.2.length ≤ 1099511627776) :
  Calls Tryz.prog 59 #[.pointer (some ⟨b, 0, none⟩), .agg #[.bool p.1, vc]] w (StepTo w g b C p) := by
 obtain ⟨gone, c⟩ := p
 simp only at hI hb
 have hO0 : Only (fun _ => False) w (w.alloc (.cells #[.bool gone, vc] 76)) := (Only.refl _ _).alloc _
 have H0 := H.only0 hO0
 have hF := rup_form_any H0 R.ok.n (hI.only0 hO0) hb
 have HF := Lib.hid hF
 have hrng := hI.range
 have HRng := Lib.hid hrng
 have c0 : (w.alloc (.cells #[.bool gone, vc] 76)).cell? ⟨w.heap.size, 0, none⟩ = some (.bool gone) := by simp
 have HC0 := Lib.hid c0
 have HO0 := Lib.hid hO0
 have hlt : w.heap.size < (w.alloc (.cells #[.bool gone, vc] 76)).heap.size := by simp
 have HLt := Lib.hid hlt
 obtain ⟨ac, cc, rfl, _, _⟩ := hI.shape
 have hfew := R.few
 clear hF hrng c0 hO0 hlt
 go_enter Tryz.func59, Tryz.ntmps59
 go_wp2_with fail
 generalize w.alloc (.cells #[.bool gone, .slice ac c.length cc] 76) = w0 at *
 generalize hB : w.heap.size = B at *
 have HB := Lib.hid hB
 clear hB
 refine HF.out.mono ?_
 intro e w1 hp
 unfold RupFormPost at hp
 cases hf : Rup.formR C.n c with
 | none =>
  rw [hf] at hp
  obtain ⟨rfl, O1⟩ := hp
  have hst : C.step (gone, c) = none := by unfold Rup.Chk.step; rw [hf]
  have HS := Lib.hid hst
  have hfin : RupTo w g b C w1 := RupTo.after H (HO0.out.same O1) (RupTo.refl (H0.only0 O1))
  have HFin := Lib.hid hfin
  clear hf hst hfin
  go_wp2_with fail
  go_ret
  unfold StepTo
  rw [HS.out]
  exact ⟨rfl, HFin.out⟩
 | some f =>
  rw [hf] at hp
  obtain ⟨vf, rfl, R1, N1, O1⟩ := hp
  have hfo := Rup.formR_ok HRng.out hf
  have hIf := Ints.of_own R1 (fun x hx => (hfo.2.1 x hx).r)
  have H1 := H0.only0 O1
  have c1 : w1.cell? ⟨B, 0, none⟩ = some (.bool gone) := cell_keep HC0.out O1 (fun f => f)
  obtain ⟨af, cf, rfl, _, _⟩ := hIf.shape
  cases gone
  ·cases hcf : (Up.conf C.n C.live (f.map fun x => -x)).2
   ·have hst : C.step (false, c) = none := by unfold Rup.Chk.step; rw [hf]; simp [hcf]
    have hN : NotMine g (.slice af f.length cf) f := fun _ k hk => H0.fresh k (N1 k (Ints.blk_own (f := f) R1 hk))
    have hfol := rup_follows_any H1 R.ok R.set hIf hN hfo.2.1 hfo.2.2.2 false hcf
    have HFol := Lib.hid hfol
    have HS := Lib.hid hst
    clear hf hst hfol hN hcf
    go_wp2_with fail
    refine HFol.out.mono ?_
    rintro e w2 ⟨rfl, h2⟩
    have hfin : RupTo w g b C w2 := RupTo.after H (HO0.out.same O1) h2
    have HFin := Lib.hid hfin
    clear hfin h2
    go_wp2_with fail
    go_ret
    unfold StepTo
    rw [HS.out]
    exact ⟨rfl, HFin.out⟩
   ·have hst : C.step (false, c) = some (C.add f) := by unfold Rup.Chk.step; rw [hf]; simp [hcf]
    have hN : NotMine g (.slice af f.length cf) f := fun _ k hk => H0.fresh k (N1 k (Ints.blk_own (f := f) R1 hk))
    have hfol := rup_follows_any H1 R.ok R.set hIf hN hfo.2.1 hfo.2.2.2 true hcf
    have HFol := Lib.hid hfol
    have HS := Lib.hid hst
    have HN := Lib.hid hN
    clear hf hst hfol hN hcf
    go_wp2_with fail
    refine HFol.out.mono ?_
    rintro e w2 ⟨rfl, h2⟩
    obtain ⟨g2, V2, H2, A2, O2⟩ := h2
    have hown : ∀ k, Value.ownBlock (.slice af f.length cf) = some k → (g2 k).1 = 0 ∧ k < w2.heap.size := fun k hk => by
     have hk1 := own_lt R1 hk
     have := O2.size
     refine ⟨?_, by omega⟩
     rw [A2 k hk1]
     exact H0.fresh k (N1 k hk)
    have H3 := H2.own hown
    have hIf2 := hIf.mine HN.out O2
    have hT3 : Tagged (g2.own (.slice af f.length cf) (7, 0)) (7, 0) (.slice af f.length cf) f := Tagged.own R1
    have hadd := rup_add_any H3 R.ok hIf2 hT3 hfo.1 (by omega)
    have HAdd := Lib.hid hadd
    have hag : Agree w1 g (g2.own (.slice af f.length cf) (7, 0)) ∨ True := .inr trivial
    clear hadd hag hT3
    go_wp2_with fail
    refine HAdd.out.mono ?_
    rintro e w3 ⟨rfl, h3⟩
    have hfin : RupTo w g b (C.add f) w3 := by
     have hs0 := HO0.out.size
     have hs1 := O1.size
     have hB := HB.out
     have ag1 : Agree w g (g2.own (.slice af f.length cf) (7, 0)) := fun k hk => by
      unfold Tag.own
      rw [if_neg]
      ·exact A2 k (by omega)
      ·intro e; have := N1 k e; omega
     refine RupTo.trans ag1 ?_ h3
     exact ((HO0.out.same O1).mono (G := Mine g) (fun _ f => f.elim)).mine (Agree.refl _ _) O2
    have HFin := Lib.hid hfin
    clear hfin h3
    go_wp2_with fail
    go_ret
    unfold StepTo
    rw [HS.out]
    exact ⟨rfl, HFin.out⟩
  ·cases hd : (C.dropK f C.cls.length).isSome
   ·have hst : C.step (true, c) = none := by unfold Rup.Chk.step; rw [hf]; simp only [if_true]; rw [if_neg (by rw [hd]; simp)]
    have hdR : C.dropR f = C := by
     unfold Rup.Chk.dropR
     cases h : C.dropK f C.cls.length with
     | none => rfl
     | some k => rw [h] at hd; cases hd
    have hdrop := rup_drop_any H1 R.ok hIf false hd
    rw [hdR] at hdrop
    have HD := Lib.hid hdrop
    have HS := Lib.hid hst
    clear hf hst hdrop hd hdR
    go_wp2_with fail
    refine HD.out.mono ?_
    rintro e w2 ⟨rfl, h2⟩
    have hfin : RupTo w g b C w2 := RupTo.after H (HO0.out.same O1) h2
    have HFin := Lib.hid hfin
    clear hfin h2
    go_wp2_with fail
    go_ret
    unfold StepTo
    rw [HS.out]
    exact ⟨rfl, HFin.out⟩
   ·have hst : C.step (true, c) = some (C.dropR f) := by unfold Rup.Chk.step; rw [hf]; simp only [if_true]; rw [if_pos hd]
    have hdrop := rup_drop_any H1 R.ok hIf true hd
    have HD := Lib.hid hdrop
    have HS := Lib.hid hst
    clear hf hst hdrop hd
    go_wp2_with fail
    refine HD.out.mono ?_
    rintro e w2 ⟨rfl, h2⟩
    have hfin : RupTo w g b (C.dropR f) w2 := RupTo.after H (HO0.out.same O1) h2
    have HFin := Lib.hid hfin
    clear hfin h2
    go_wp2_with fail
    go_ret
    unfold StepTo
    rw [HS.out]
    exact ⟨rfl, HFin.out⟩
theorem rup_check1_any (H : ChkAt w g b V C) {m : Nat} (R : C.Rest (m + 1)) (p : Bool × List Int) {vc : Value} (hI : Ints w vc p.2) (hb : p.2.length ≤ 1099511627776) (bc : Nat) (hbc : w.cell? ⟨bc, 0, none⟩ = some (.pointer (some ⟨b, 0, none⟩))) :
  Calls Tryz.prog 58 #[.agg #[.bool p.1, vc], .pointer (some ⟨bc, 0, none⟩)] w fun e w' => match C.step p with
   | none => e = .returned (.bool true) ∧ RupTo w g b C w'
   | some C' => e = .returned (.bool false) ∧ RupTo w g b C' w' := by
 obtain ⟨ac, cc, rfl, _, _⟩ := hI.shape
 have hO0 : Only (fun _ => False) w (w.alloc (.cells #[.bool p.1, .slice ac p.2.length cc] 76)) := (Only.refl _ _).alloc _
 have hs := rup_step_any (H.only0 hO0) R p (hI.only0 hO0) hb
 have HS := Lib.hid hs
 have hto := fun C' w' (h : RupTo (w.alloc (.cells #[.bool p.1, .slice ac p.2.length cc] 76)) g b C' w') => RupTo.after H hO0 h
 have HTo := Lib.hid hto
 have hbl := World.block_lt_of_cell? w _ hbc
 simp only at hbl
 clear hs hto hO0 H R
 unfold StepTo at HS
 cases hst : C.step p with
 | none =>
  rw [hst] at HS
  clear hst
  go_enter Tryz.func58, Tryz.ntmps58
  go_wp2_with fail
  refine HS.out.mono ?_
  rintro e w2 ⟨rfl, h2⟩
  have h3 := HTo.out _ _ h2
  clear h2 HTo
  go_wp2_with fail
  go_ret
  exact ⟨rfl, h3⟩
 | some C' =>
  rw [hst] at HS
  clear hst
  go_enter Tryz.func58, Tryz.ntmps58
  go_wp2_with fail
  refine HS.out.mono ?_
  rintro e w2 ⟨rfl, h2⟩
  have h3 := HTo.out _ _ h2
  clear h2 HTo
  go_wp2_with fail
  go_ret
  exact ⟨rfl, h3⟩
end
def StepSays (w : World) (Inv : Nat → World → Prop) (R : Int) (k : Nat) (e : Ending) (W : World) : Prop :=
 (e = .returned (.bool true) ∧ R = k ∧ Only (fun _ => False) w W) ∨ (e = .returned (.bool false) ∧ Inv (k + 1) W)
section
variable {w : World}
set_option maxHeartbeats 1600000 in
theorem IndexFunc_step {w0 : World} {v : Value} {ps : List (Bool × List Int)} (hS : StepsAt w0 v ps) (hlen : ps.length ≤ 1099511627) (fn : Nat) (cb : Array Value) (eg : ∀ args w, (callFunc fn args).run Tryz.prog w = .ok (.enter fn args) w)
  (Inv : Nat → World → Prop) (R : Int) (h0 : Inv 0 w) (hO : ∀ k W, Inv k W → Only (fun _ => False) w0 W) (hend : ∀ W, Inv ps.length W → R = -1)
  (hp : ∀ k W u, k < ps.length → Inv k W → Ints W u (ps.getD k (false, [])).2 → Calls Tryz.prog fn (#[.agg #[.bool (ps.getD k (false, [])).1, u]] ++ cb) W (StepSays w0 Inv R k)) :
  Calls Tryz.prog 57 #[v, .func (.func fn) #[] cb] w fun e w' => e = .returned (.int .i64 R) ∧ Only (fun _ => False) w0 w' := by
 obtain ⟨ao, cap, rfl, hl, hm⟩ := hS.shape
 have HO := Lib.hid hO
 have HEnd := Lib.hid hend
 have HP := Lib.hid hp
 clear hO hend hp
 go_enter Tryz.func57, Tryz.ntmps57
 go_wp2_with fail
 go_loopw [8] (fun v wr => ∃ k : Nat, v = .int .i64 k ∧ k ≤ ps.length ∧ Inv k wr) (fun v _ => ps.length - (intOf v).toNat)
 case atStart => exact ⟨0, rfl, Nat.zero_le _, h0⟩
 case round =>
  obtain ⟨k, rfl, hk, hI⟩ := hrel
  have hOw := HO.out k wr hI
  by_cases ck : k < ps.length
  ·obtain ⟨b, off, us, rfl, _, hcs⟩ := (hS.only0 hOw).cells _ _ _ rfl (by omega)
   obtain ⟨q1, q2, hu⟩ := hcs k ck
   have hc := HP.out k wr (us k) ck hI hu
   have HC := Lib.hid hc
   obtain ⟨au, cu, hue, _, _⟩ := hu.shape
   rw [hue] at q2 HC
   clear hcs hc hue hu hI
   generalize ps.getD k (false, []) = p at *
   go_wp2_with fail
   refine HC.out.mono ?_
   intro e w' hsay
   rcases hsay with ⟨rfl, rfl, O2⟩ | ⟨rfl, hI2⟩
   ·go_wp2_with fail
    go_ret
    exact ⟨rfl, O2⟩
   ·go_wp2_with fail
    go_roundw
    case rel => exact ⟨k + 1, by go_num, by omega, hI2⟩
    case measure => simp [intOf]; omega
  ·have hk' : k = ps.length := by omega
   have hR : R = -1 := HEnd.out wr (by rw [← hk']; exact hI)
   have HR := Lib.hid hR
   clear hR hI
   go_wp2_with fail
   go_ret
   rw [HR.out]
   exact ⟨rfl, hOw⟩
structure Going (w : World) (b bc N : Nat) (ps : List (Bool × List Int)) (R : Int) (k : Nat) (W : World) (C : Rup.Chk) (g : Tag) (V : RupV) : Prop where
 at_ : ChkAt W g b V C
 clr : ∀ k, k < w.heap.size → (g k).1 = 0
 only : Only (fun _ => False) w W
 cell : W.cell? ⟨bc, 0, none⟩ = some (.pointer (some ⟨b, 0, none⟩))
 tag : (g bc).1 = 0
 rest : C.Rest (ps.length - k)
 n : C.n = N
 bad : R = C.bad (ps.drop k) k
theorem Going.next {b bc N : Nat} {ps : List (Bool × List Int)} {R : Int} {k : Nat} {W W' : World} {C : Rup.Chk} {g : Tag} {V : RupV} (h : Going w b bc N ps R k W C g V) (hk : k < ps.length) {C' : Rup.Chk} (hr : ∀ x ∈ (ps.getD k (false, [])).2, InI64 x) (hs : C.step (ps.getD k (false, [])) = some C')
  (h2 : RupTo W g b C' W') : ∃ g' V', Going w b bc N ps R (k + 1) W' C' g' V' := by
 obtain ⟨g2, V2, H2, A2, O2⟩ := h2
 have hrest := h.rest
 rw [show ps.length - k = (ps.length - (k + 1)) + 1 by omega] at hrest
 obtain ⟨hr1, hr2⟩ := hrest.step hr hs
 have hbc := World.block_lt_of_cell? W _ h.cell
 simp only at hbc
 refine ⟨g2, V2, H2, fun j hj => ?_, RupBegun.mine h.clr h.only O2, cell_keep h.cell O2 (by unfold Mine; rw [h.tag]; simp), ?_, hr1, hr2.trans h.n, ?_⟩
 ·have := h.only.size
  rw [A2 j (by omega)]; exact h.clr j hj
 ·rw [A2 bc hbc]; exact h.tag
 ·rw [h.bad, List.drop_eq_getElem_cons hk, Rup.Chk.bad]
  have e : ps[k] = ps.getD k (false, []) := by simp [List.getD_eq_getElem?_getD, hk]
  rw [e, hs]
theorem Going.hit {b bc N : Nat} {ps : List (Bool × List Int)} {R : Int} {k : Nat} {W : World} {C : Rup.Chk} {g : Tag} {V : RupV} (h : Going w b bc N ps R k W C g V) (hk : k < ps.length) (hs : C.step (ps.getD k (false, [])) = none) : R = k := by
 rw [h.bad, List.drop_eq_getElem_cons hk, Rup.Chk.bad]
 have e : ps[k] = ps.getD k (false, []) := by simp [List.getD_eq_getElem?_getD, hk]
 rw [e, hs]
def Rup.start (N : Nat) (css : List (List Int)) : Rup.Chk := (Rup.Chk.zero N).all css
theorem rup_start_rest {N : Nat} {css : List (List Int)} {m : Nat} (hok : (Rup.start N css).Ok) (hb : css.length + m ≤ 1000000) : (Rup.start N css).Rest m := by
 refine ⟨hok, (Rup.all_set _ _).trans rfl, ?_⟩
 have := Rup.all_len css (Rup.Chk.zero N)
 have h0 : (Rup.Chk.zero N).cls.length = 0 := rfl
 unfold Rup.start
 omega
set_option maxHeartbeats 1600000 in
theorem rup_Check_any {vcs vps : Value} {css : List (List Int)} {ps : List (Bool × List Int)} (hI : IntsS w vcs css) (hS : StepsAt w vps ps) (hb : css.length ≤ 100000) (hb2 : ∀ c ∈ css, c.length ≤ 1099511627776) (hp1 : ps.length ≤ 100000) (hp2 : ∀ p ∈ ps, p.2.length ≤ 1099511627776)
  (n : Int) (N : Nat) (hN : (N : Int) = min (max n 0) 65536) :
  Calls Tryz.prog 31 #[.int .i64 n, vcs, vps] w fun e w' => e = .returned (.int .i64 ((Rup.start N css).bad ps 0)) ∧ Only (fun _ => False) w w' := by
 have hmf : ∀ (fn : Fn) (first cap : Array Value) (w : World), (Instr.makeFunc fn first cap).run Tryz.prog w = .ok (.func fn first cap) w := fun _ _ _ _ => rfl
 have eg : ∀ args w, (callFunc 58 args).run Tryz.prog w = .ok (.enter 58 args) w := enters_of Tryz.func58 (by kernel_rfl) rfl
 have HEg := Lib.hid eg
 have hbeg := rup_begin_any hI hb hb2 n N hN
 have HBeg := Lib.hid hbeg
 have HP2 := Lib.hid hp2
 clear eg hbeg hN hp2
 obtain ⟨ac, cc, rfl, _, _⟩ := hI.shape
 obtain ⟨as_, cs, rfl, _, _⟩ := hS.shape
 go_enter Tryz.func31, Tryz.ntmps31
 go_wp2_with fail
 refine HBeg.out.mono ?_
 rintro e w1 ⟨b, rfl, hB, hok⟩
 obtain ⟨g, V, H, hclr, hO⟩ := hB
 have hW : ∀ o, Only (fun _ => False) w (w1.alloc o) := fun o => hO.alloc o
 go_wp2_with fail
 have hinv : Going w b w1.heap.size N ps ((Rup.start N css).bad ps 0) 0 (w1.alloc (.cells #[.pointer (some ⟨b, 0, none⟩)] 92)) (Rup.start N css) g V :=
  ⟨H.only0 ((Only.refl _ _).alloc _), hclr, hO.alloc _, cell_newE _ _ _ _ rfl, H.fresh _ (Nat.le_refl _), rup_start_rest hok (by omega), (Rup.all_n _ _).trans rfl, rfl⟩
 have HInv := Lib.hid hinv
 clear hinv hW
 generalize hWW : w1.alloc (.cells #[.pointer (some ⟨b, 0, none⟩)] 92) = W at *
 clear hWW
 refine (IndexFunc_step hS (by omega) 58 #[.pointer (some ⟨w1.heap.size, 0, none⟩)] HEg.out (fun k W' => ∃ C g V, Going w b w1.heap.size N ps ((Rup.start N css).bad ps 0) k W' C g V) ((Rup.start N css).bad ps 0) ⟨_, g, V, HInv.out⟩ ?_ ?_ ?_).mono ?_
 ·rintro k W' ⟨C, g, V, h⟩
  exact h.only
 ·rintro W' ⟨C, g, V, h⟩
  have := h.bad
  rw [List.drop_length] at this
  exact this
 ·rintro k W' u hk ⟨C, g, V, h⟩ hu
  have hrest := h.rest
  rw [show ps.length - k = (ps.length - (k + 1)) + 1 by omega] at hrest
  have hc := rup_check1_any h.at_ hrest (ps.getD k (false, [])) hu (HP2.out _ (getD_mem' _ hk)) w1.heap.size h.cell
  refine hc.mono fun e W2 h2 => ?_
  cases hst : C.step (ps.getD k (false, [])) with
  | none =>
   rw [hst] at h2
   obtain ⟨h21, g2, V2, _, _, O2⟩ := h2
   exact .inl ⟨h21, h.hit hk hst, RupBegun.mine h.clr h.only O2⟩
  | some C' =>
   rw [hst] at h2
   obtain ⟨g', V', hn⟩ := h.next hk hu.range hst h2.2
   exact .inr ⟨h2.1, C', g', V', hn⟩
 ·rintro e w2 ⟨rfl, O2⟩
  go_wp2_with fail
  go_ret
  exact ⟨rfl, O2⟩
theorem rup_follows1_any {g : Tag} {b : Nat} {V : RupV} {C : Rup.Chk} (H : ChkAt w g b V C) (hn : C.n ≤ 65536) (bc : Nat) (hbc : w.cell? ⟨bc, 0, none⟩ = some (.pointer (some ⟨b, 0, none⟩))) (x : Int) (hx : InI64 x) :
  Calls Tryz.prog 99 #[.int .i64 x, .pointer (some ⟨bc, 0, none⟩)] w fun e w' => e = .returned (.bool (!Cnf.okAt C.n x)) ∧ w = w' := by
 have hc := rup_is_any H hn x hx _ rfl
 have HC := Lib.hid hc
 clear hc H
 generalize Cnf.okAt C.n x = r at *
 go_enter Tryz.func99, Tryz.ntmps99
 go_wp2_with fail
 refine HC.out.mono ?_
 rintro e w' ⟨rfl, rfl⟩
 go_wp2_with fail
 go_ret
 exact ⟨rfl, rfl⟩
def Rup.followsB (N : Nat) (css : List (List Int)) (c : List Int) : Bool :=
 if c.any (fun x => !Cnf.okAt N x) then false else match Cnf.form c with | none => true | some f => (Up.conf N (Rup.start N css).live (f.map fun x => -x)).2
theorem formR_of_ok {N : Nat} {c : List Int} (h : c.any (fun x => !Cnf.okAt N x) = false) : Rup.formR N c = Cnf.form c := by
 unfold Rup.formR Cnf.right
 have e : c.all (Cnf.okAt N) = true := by
  rw [List.all_eq_true]
  intro x hx
  rw [List.any_eq_false] at h
  have := h x hx
  simpa using this
 rw [e]
 cases h2 : Cnf.form c <;> simp
set_option maxHeartbeats 1600000 in
theorem rup_Follows_any {vcs vc : Value} {css : List (List Int)} {c : List Int} (hI : IntsS w vcs css) (hc : Ints w vc c) (hb : css.length ≤ 100000) (hb2 : ∀ c ∈ css, c.length ≤ 1099511627776) (hcb : c.length ≤ 1099511627776)
  (n : Int) (N : Nat) (hN : (N : Int) = min (max n 0) 65536) (r : Bool) (hr : Rup.followsB N css c = r) :
  Calls Tryz.prog 55 #[.int .i64 n, vcs, vc] w fun e w' => e = .returned (.bool r) ∧ Only (fun _ => False) w w' := by
 have hmf : ∀ (fn : Fn) (first cap : Array Value) (w : World), (Instr.makeFunc fn first cap).run Tryz.prog w = .ok (.func fn first cap) w := fun _ _ _ _ => rfl
 have eg : ∀ args w, (callFunc 99 args).run Tryz.prog w = .ok (.enter 99 args) w := enters_of Tryz.func99 (by kernel_rfl) rfl
 have HEg := Lib.hid eg
 have hbeg := rup_begin_any hI hb hb2 n N hN
 have HBeg := Lib.hid hbeg
 have HR := Lib.hid hr
 have hN1 : N ≤ 65536 := by omega
 clear eg hbeg hN hr
 obtain ⟨ac, cc, rfl, _, _⟩ := hI.shape
 obtain ⟨al, cl, rfl, _, _⟩ := hc.shape
 go_enter Tryz.func55, Tryz.ntmps55
 go_wp2_with fail
 refine HBeg.out.mono ?_
 rintro e w1 ⟨b, rfl, hB, hok⟩
 obtain ⟨g, V, H, hclr, hO⟩ := hB
 have hrest := rup_start_rest (N := N) (css := css) (m := 0) hok (by omega)
 have hnN : (Rup.start N css).n = N := (Rup.all_n _ _).trans rfl
 have hH : ChkAt w1 g b V (Rup.start N css) := H
 have hR : Rup.followsB N css c = if c.any (fun x => !Cnf.okAt N x) then false else match Cnf.form c with | none => true | some f => (Up.conf N (Rup.start N css).live (f.map fun x => -x)).2 := rfl
 have HR2 := Lib.hid hR
 have HnN := Lib.hid hnN
 have HRest := Lib.hid hrest
 clear H hok hR hnN hrest
 generalize Rup.start N css = C at *
 have hOa : Only (fun _ => False) w (w1.alloc (.cells #[.pointer (some ⟨b, 0, none⟩)] 92)) := hO.alloc _
 have hca : (w1.alloc (.cells #[.pointer (some ⟨b, 0, none⟩)] 92)).cell? ⟨w1.heap.size, 0, none⟩ = some (.pointer (some ⟨b, 0, none⟩)) := cell_newE _ _ _ _ rfl
 have hHa : ChkAt (w1.alloc (.cells #[.pointer (some ⟨b, 0, none⟩)] 92)) g b V C := hH.only0 ((Only.refl _ _).alloc _)
 have HOa := Lib.hid hOa
 have HCa := Lib.hid hca
 have htag : (g w1.heap.size).1 = 0 := hH.fresh _ (Nat.le_refl _)
 have HTag := Lib.hid htag
 clear hOa hca htag
 go_wp2_with fail
 generalize w1.alloc (.cells #[.pointer (some ⟨b, 0, none⟩)] 92) = W at *
 generalize w1.heap.size = B at *
 have hcW := hc.only0 HOa.out
 have hpred : PredI W 99 #[.pointer (some ⟨B, 0, none⟩)] (fun x => !Cnf.okAt N x) c := fun x hx W' hW' => by
  have h1 := rup_follows1_any (hHa.only0 hW') (by rw [HnN.out]; exact hN1) B (cell_keep HCa.out hW' (fun f => f)) x (hc.range x hx)
  rw [HnN.out] at h1
  exact h1.mono fun _ _ ⟨he, hw⟩ => ⟨he, by rw [hw]; exact Only.refl _ _⟩
 have HPred := Lib.hid hpred
 clear hpred
 cases hany : c.any (fun x => !Cnf.okAt N x)
 ·have hfr := formR_of_ok hany
  have HA := Lib.hid hany
  clear hany
  refine (ContainsFunc_int hcW 99 #[.pointer (some ⟨B, 0, none⟩)] _ HEg.out HPred.out false HA.out).mono ?_
  rintro e w2 ⟨rfl, O2⟩
  have hc2 := cell_keep HCa.out O2 (fun f => f)
  have hF := Form_any (hcW.only0 O2) hcb
  have HF := Lib.hid hF
  clear hF
  go_wp2_with fail
  refine HF.out.mono ?_
  intro e w3 hp
  unfold FormPost at hp
  cases hf : Cnf.form c with
  | none =>
   rw [hf] at hp
   obtain ⟨rfl, O3⟩ := hp
   have hres : r = true := by rw [← HR.out, HR2.out, HA.out, hf]; rfl
   have HRes := Lib.hid hres
   clear hf hres hfr
   go_wp2_with fail
   go_ret
   rw [HRes.out]
   exact ⟨rfl, (HOa.out.same O2).same O3⟩
  | some f =>
   rw [hf] at hp
   obtain ⟨vf, rfl, R1, N1, O3⟩ := hp
   rw [hf] at hfr
   have hfo := Rup.formR_ok hc.range hfr
   have hIf := Ints.of_own R1 (fun x hx => (hfo.2.1 x hx).r)
   have hres : (Up.conf C.n C.live (f.map fun x => -x)).2 = r := by rw [← HR.out, HR2.out, HA.out, hf, HnN.out]; rfl
   have hH2 := hHa.only0 (O2.same O3)
   have hN : NotMine g vf f := fun _ k hk => (hHa.only0 O2).fresh k (N1 k (Ints.blk_own (f := f) R1 hk))
   have hfol := rup_follows_any hH2 HRest.out.ok HRest.out.set hIf hN hfo.2.1 (by rw [HnN.out]; exact hfo.2.2.2) r hres
   have HFol := Lib.hid hfol
   have hc3 := cell_keep hc2 O3 (fun f => f)
   have hO3 : Only (fun _ => False) w w3 := (HOa.out.same O2).same O3
   clear hf hres hfol hN hfr hfo
   obtain ⟨af, cf, rfl, _, _⟩ := hIf.shape
   go_wp2_with fail
   refine HFol.out.mono ?_
   rintro e w4 ⟨rfl, g4, V4, _, _, O4⟩
   have hO4 : Only (fun _ => False) w w4 := RupBegun.mine hclr hO3 O4
   clear O4
   go_wp2_with fail
   go_ret
   exact ⟨rfl, hO4⟩
 ·have HA := Lib.hid hany
  clear hany
  have hres : r = false := by rw [← HR.out, HR2.out, HA.out]; rfl
  have HRes := Lib.hid hres
  clear hres
  refine (ContainsFunc_int hcW 99 #[.pointer (some ⟨B, 0, none⟩)] _ HEg.out HPred.out true HA.out).mono ?_
  rintro e w2 ⟨rfl, O2⟩
  go_wp2_with fail
  go_ret
  rw [HRes.out]
  exact ⟨rfl, HOa.out.same O2⟩
end
end Go.Proofs.YtjedgdamommgeaaGreat

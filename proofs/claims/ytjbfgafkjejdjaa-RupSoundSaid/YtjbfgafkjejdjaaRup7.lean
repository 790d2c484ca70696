/- The walks of package rup, seventh part: step, Check, Follows. -/
import Derived.Test.YtjbfgafkjejdjaaRup6
namespace Go.Proofs.Ytjbfgafkjejdjaa
open Go.RowKit

namespace Rup
/-- a step of a proof -/
def Chk.step (C : Chk) (p : Bool × List Int) : Option Chk :=
  match formR C.n p.2 with
  | none => none
  | some f => if p.1 then (if (C.dropK f C.cls.length).isSome then some (C.dropR f) else none)
    else if (Up.conf C.n C.live (f.map fun x => -x)).2 then some (C.add f) else none

/-- what a checker has been through after k steps without a wrong one -/
def Chk.run (C : Chk) : List (Bool × List Int) → Option Chk
  | [] => some C
  | p :: r => match C.step p with
    | none => none
    | some C' => C'.run r

/-- the place of the first wrong step -/
def Chk.bad (C : Chk) : List (Bool × List Int) → Nat → Int
  | [], _ => -1
  | p :: r, i => match C.step p with
    | none => i
    | some C' => C'.bad r (i + 1)

theorem dropR_n (C : Chk) (f : List Int) : (C.dropR f).n = C.n := by unfold Chk.dropR; split <;> rfl
theorem dropR_set (C : Chk) (f : List Int) : (C.dropR f).set = C.set := by unfold Chk.dropR; split <;> rfl
theorem dropR_cls (C : Chk) (f : List Int) : (C.dropR f).cls = C.cls := by unfold Chk.dropR; split <;> rfl

/-- a checker between two steps -/
structure Chk.Rest (C : Chk) (m : Nat) : Prop where
  ok : C.Ok
  set : C.set = []
  few : C.cls.length + m ≤ 1000000

theorem Chk.Rest.step {C C' : Chk} {m : Nat} (h : C.Rest (m + 1)) {p : Bool × List Int} (hr : ∀ x ∈ p.2, InI64 x) (hs : C.step p = some C') : C'.Rest m ∧ C'.n = C.n := by
  unfold Chk.step at hs
  have hf := h.few
  cases hfm : formR C.n p.2 with
  | none => rw [hfm] at hs; cases hs
  | some f =>
    rw [hfm] at hs
    have hfo := formR_ok hr hfm
    simp only at hs
    split at hs
    · split at hs
      · simp at hs; subst hs
        exact ⟨⟨h.ok.dropR f, by rw [dropR_set]; exact h.set, by rw [dropR_cls]; omega⟩, dropR_n C f⟩
      · cases hs
    · split at hs
      · simp at hs; subst hs
        exact ⟨⟨h.ok.add hfo.1 (by omega), h.set, by simp [Chk.add]; omega⟩, rfl⟩
      · cases hs
end Rup

/-- A slice that reads as these steps. -/
structure StepsAt (w : World) (v : Value) (ps : List (Bool × List Int)) : Prop where
  shape : ∃ ao cap, v = .slice ao ps.length cap ∧ ps.length ≤ cap ∧ cap ≤ 9223372036854775807
  cells : ∀ ao len cap, v = .slice ao len cap → 0 < ps.length → ∃ (b off : Nat) (us : Nat → Value), ao = some ⟨b, off, none⟩ ∧ b < w.heap.size ∧ ∀ i, i < ps.length →
    w.cell? ⟨b, off + i * 2, none⟩ = some (.bool (ps.getD i (false, [])).1) ∧ w.cell? ⟨b, off + i * 2 + 1, none⟩ = some (us i) ∧ Ints w (us i) (ps.getD i (false, [])).2

theorem StepsAt.only0 {w w' : World} {v : Value} {ps : List (Bool × List Int)} (h : StepsAt w v ps) (ho : Only (fun _ => False) w w') : StepsAt w' v ps := by
  refine ⟨h.shape, fun ao len cap hv hp => ?_⟩
  obtain ⟨b, off, us, rfl, hb, hc⟩ := h.cells ao len cap hv hp
  refine ⟨b, off, us, rfl, Nat.lt_of_lt_of_le hb ho.size, fun i hi => ?_⟩
  obtain ⟨h1, h2, h3⟩ := hc i hi
  exact ⟨cell_keep h1 ho (fun f => f), cell_keep h2 ho (fun f => f), h3.only0 ho⟩

section
variable {w : World} {g : Tag} {b : Nat} {V : RupV} {C : Rup.Chk}

theorem Ints.blk_own {v : Value} {f : List Int} {n : Nat} {xs : List Value} (h : w.ownsRow 0 3 1 v n xs) {k : Nat} (hk : Value.blk v = some k) : v.ownBlock = some k := by
  rcases h.2 with ⟨h', _⟩ | ⟨g', cap', cur, h', _⟩
  · rw [h'] at hk; simp [Value.blk] at hk
  · rw [h'] at hk ⊢; simpa [Value.blk, Value.ownBlock] using hk

/-- what a step leaves -/
def StepTo (w : World) (g : Tag) (b : Nat) (C : Rup.Chk) (p : Bool × List Int) (e : Ending) (w' : World) : Prop :=
  match C.step p with
  | none => e = .returned (.bool false) ∧ RupTo w g b C w'
  | some C' => e = .returned (.bool true) ∧ RupTo w g b C' w'

set_option maxHeartbeats 1600000 in
theorem rup_step_any (H : ChkAt w g b V C) {m : Nat} (R : C.Rest (m + 1)) (p : Bool × List Int) {vc : Value} (hI : Ints w vc p.2) (hb : p.2.length ≤ 1099511627776) :
    Calls Try.prog 55 #[.pointer (some ⟨b, 0, none⟩), .agg #[.bool p.1, vc]] w (StepTo w g b C p) := by
  obtain ⟨gone, c⟩ := p
  simp only at hI hb
  have hO0 : Only (fun _ => False) w (w.alloc (.cells #[.bool gone, vc] 48)) := (Only.refl _ _).alloc _
  have H0 := H.only0 hO0
  have hF := rup_form_any H0 R.ok.n (hI.only0 hO0) hb
  have HF := Lib.hid hF
  have hrng := hI.range
  have HRng := Lib.hid hrng
  have c0 : (w.alloc (.cells #[.bool gone, vc] 48)).cell? ⟨w.heap.size, 0, none⟩ = some (.bool gone) := by simp
  have HC0 := Lib.hid c0
  have HO0 := Lib.hid hO0
  have hlt : w.heap.size < (w.alloc (.cells #[.bool gone, vc] 48)).heap.size := by simp
  have HLt := Lib.hid hlt
  obtain ⟨ac, cc, rfl, _, _⟩ := hI.shape
  have hfew := R.few
  clear hF hrng c0 hO0 hlt
  go_enter Try.func55, Try.ntmps55
  go_wp2_with fail
  generalize w.alloc (.cells #[.bool gone, .slice ac c.length cc] 48) = w0 at *
  generalize hB : w.heap.size = B at *
  have HB := Lib.hid hB
  clear hB
  refine HF.out.mono ?_
  intro e w1 hp
  unfold RupFormPost at hp
  cases hf : Rup.formR C.n c with
  | none =>
    rw [hf] at hp
    obtain ⟨rfl, O1⟩ := hp
    have hst : C.step (gone, c) = none := by unfold Rup.Chk.step; rw [hf]
    have HS := Lib.hid hst
    have hfin : RupTo w g b C w1 := RupTo.after H (HO0.out.same O1) (RupTo.refl (H0.only0 O1))
    have HFin := Lib.hid hfin
    clear hf hst hfin
    go_wp2_with fail
    go_ret
    unfold StepTo
    rw [HS.out]
    exact ⟨rfl, HFin.out⟩
  | some f =>
    rw [hf] at hp
    obtain ⟨vf, rfl, R1, N1, O1⟩ := hp
    have hfo := Rup.formR_ok HRng.out hf
    have hIf := Ints.of_own R1 (fun x hx => (hfo.2.1 x hx).r)
    have H1 := H0.only0 O1
    have c1 : w1.cell? ⟨B, 0, none⟩ = some (.bool gone) := cell_keep HC0.out O1 (fun f => f)
    obtain ⟨af, cf, rfl, _, _⟩ := hIf.shape
    cases gone
    · cases hcf : (Up.conf C.n C.live (f.map fun x => -x)).2
      · have hst : C.step (false, c) = none := by unfold Rup.Chk.step; rw [hf]; simp [hcf]
        have hN : NotMine g (.slice af f.length cf) f := fun _ k hk => H0.fresh k (N1 k (Ints.blk_own (f := f) R1 hk))
        have hfol := rup_follows_any H1 R.ok R.set hIf hN hfo.2.1 hfo.2.2.2 false hcf
        have HFol := Lib.hid hfol
        have HS := Lib.hid hst
        clear hf hst hfol hN hcf
        go_wp2_with fail
        refine HFol.out.mono ?_
        rintro e w2 ⟨rfl, h2⟩
        have hfin : RupTo w g b C w2 := RupTo.after H (HO0.out.same O1) h2
        have HFin := Lib.hid hfin
        clear hfin h2
        go_wp2_with fail
        go_ret
        unfold StepTo
        rw [HS.out]
        exact ⟨rfl, HFin.out⟩
      · have hst : C.step (false, c) = some (C.add f) := by unfold Rup.Chk.step; rw [hf]; simp [hcf]
        have hN : NotMine g (.slice af f.length cf) f := fun _ k hk => H0.fresh k (N1 k (Ints.blk_own (f := f) R1 hk))
        have hfol := rup_follows_any H1 R.ok R.set hIf hN hfo.2.1 hfo.2.2.2 true hcf
        have HFol := Lib.hid hfol
        have HS := Lib.hid hst
        have HN := Lib.hid hN
        clear hf hst hfol hN hcf
        go_wp2_with fail
        refine HFol.out.mono ?_
        rintro e w2 ⟨rfl, h2⟩
        obtain ⟨g2, V2, H2, A2, O2⟩ := h2
        have hown : ∀ k, Value.ownBlock (.slice af f.length cf) = some k → (g2 k).1 = 0 ∧ k < w2.heap.size := fun k hk => by
          have hk1 := own_lt R1 hk
          have := O2.size
          refine ⟨?_, by omega⟩
          rw [A2 k hk1]
          exact H0.fresh k (N1 k hk)
        have H3 := H2.own hown
        have hIf2 := hIf.mine HN.out O2
        have hT3 : Tagged (g2.own (.slice af f.length cf) (7, 0)) (7, 0) (.slice af f.length cf) f := Tagged.own R1
        have hadd := rup_add_any H3 R.ok hIf2 hT3 hfo.1 (by omega)
        have HAdd := Lib.hid hadd
        have hag : Agree w1 g (g2.own (.slice af f.length cf) (7, 0)) ∨ True := .inr trivial
        clear hadd hag hT3
        go_wp2_with fail
        refine HAdd.out.mono ?_
        rintro e w3 ⟨rfl, h3⟩
        have hfin : RupTo w g b (C.add f) w3 := by
          have hs0 := HO0.out.size
          have hs1 := O1.size
          have hB := HB.out
          have ag1 : Agree w g (g2.own (.slice af f.length cf) (7, 0)) := fun k hk => by
            unfold Tag.own
            rw [if_neg]
            · exact A2 k (by omega)
            · intro e; have := N1 k e; omega
          refine RupTo.trans ag1 ?_ h3
          exact ((HO0.out.same O1).mono (G := Mine g) (fun _ f => f.elim)).mine (Agree.refl _ _) O2
        have HFin := Lib.hid hfin
        clear hfin h3
        go_wp2_with fail
        go_ret
        unfold StepTo
        rw [HS.out]
        exact ⟨rfl, HFin.out⟩
    · cases hd : (C.dropK f C.cls.length).isSome
      · have hst : C.step (true, c) = none := by unfold Rup.Chk.step; rw [hf]; simp only [if_true]; rw [if_neg (by rw [hd]; simp)]
        have hdR : C.dropR f = C := by
          unfold Rup.Chk.dropR
          cases h : C.dropK f C.cls.length with
          | none => rfl
          | some k => rw [h] at hd; cases hd
        have hdrop := rup_drop_any H1 R.ok hIf false hd
        rw [hdR] at hdrop
        have HD := Lib.hid hdrop
        have HS := Lib.hid hst
        clear hf hst hdrop hd hdR
        go_wp2_with fail
        refine HD.out.mono ?_
        rintro e w2 ⟨rfl, h2⟩
        have hfin : RupTo w g b C w2 := RupTo.after H (HO0.out.same O1) h2
        have HFin := Lib.hid hfin
        clear hfin h2
        go_wp2_with fail
        go_ret
        unfold StepTo
        rw [HS.out]
        exact ⟨rfl, HFin.out⟩
      · have hst : C.step (true, c) = some (C.dropR f) := by unfold Rup.Chk.step; rw [hf]; simp only [if_true]; rw [if_pos hd]
        have hdrop := rup_drop_any H1 R.ok hIf true hd
        have HD := Lib.hid hdrop
        have HS := Lib.hid hst
        clear hf hst hdrop hd
        go_wp2_with fail
        refine HD.out.mono ?_
        rintro e w2 ⟨rfl, h2⟩
        have hfin : RupTo w g b (C.dropR f) w2 := RupTo.after H (HO0.out.same O1) h2
        have HFin := Lib.hid hfin
        clear hfin h2
        go_wp2_with fail
        go_ret
        unfold StepTo
        rw [HS.out]
        exact ⟨rfl, HFin.out⟩

/-- the predicate that Check hands to IndexFunc -/
theorem rup_check1_any (H : ChkAt w g b V C) {m : Nat} (R : C.Rest (m + 1)) (p : Bool × List Int) {vc : Value} (hI : Ints w vc p.2) (hb : p.2.length ≤ 1099511627776) (bc : Nat) (hbc : w.cell? ⟨bc, 0, none⟩ = some (.pointer (some ⟨b, 0, none⟩))) :
    Calls Try.prog 54 #[.agg #[.bool p.1, vc], .pointer (some ⟨bc, 0, none⟩)] w fun e w' => match C.step p with
      | none => e = .returned (.bool true) ∧ RupTo w g b C w'
      | some C' => e = .returned (.bool false) ∧ RupTo w g b C' w' := by
  obtain ⟨ac, cc, rfl, _, _⟩ := hI.shape
  have hO0 : Only (fun _ => False) w (w.alloc (.cells #[.bool p.1, .slice ac p.2.length cc] 48)) := (Only.refl _ _).alloc _
  have hs := rup_step_any (H.only0 hO0) R p (hI.only0 hO0) hb
  have HS := Lib.hid hs
  have hto := fun C' w' (h : RupTo (w.alloc (.cells #[.bool p.1, .slice ac p.2.length cc] 48)) g b C' w') => RupTo.after H hO0 h
  have HTo := Lib.hid hto
  have hbl := World.block_lt_of_cell? w _ hbc
  simp only at hbl
  clear hs hto hO0 H R
  unfold StepTo at HS
  cases hst : C.step p with
  | none =>
    rw [hst] at HS
    clear hst
    go_enter Try.func54, Try.ntmps54
    go_wp2_with fail
    refine HS.out.mono ?_
    rintro e w2 ⟨rfl, h2⟩
    have h3 := HTo.out _ _ h2
    clear h2 HTo
    go_wp2_with fail
    go_ret
    exact ⟨rfl, h3⟩
  | some C' =>
    rw [hst] at HS
    clear hst
    go_enter Try.func54, Try.ntmps54
    go_wp2_with fail
    refine HS.out.mono ?_
    rintro e w2 ⟨rfl, h2⟩
    have h3 := HTo.out _ _ h2
    clear h2 HTo
    go_wp2_with fail
    go_ret
    exact ⟨rfl, h3⟩
end
end Go.Proofs.Ytjbfgafkjejdjaa

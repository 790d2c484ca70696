/- Bld1 Bld2, in one text. -/
import Derived.Test.YtbapkcnfacklaaaGreatOwnS
import Derived.Test.YtbapkcnfacklaaaGreatCnfA
import Derived.Test.YtbapkcnfacklaaaGreatAtA
import Derived.Test.YtbapkcnfacklaaaGreatRef12
import Derived.Test.YtbapkcnfacklaaaGreatFormR
set_option linter.unusedVariables false
namespace Go.Proofs.YtbapkcnfacklaaaGreat
open Go.RowKit
structure Bld where
 cls : List (List Int)
 bad : Bool
 full : Bool
structure BldV where
 vl : Value
 us : List Value
structure BldAt (w : World) (g : Tag) (b : Nat) (V : BldV) (B : Bld) : Prop where
 blk : w.heap[b]? = some (.cells #[V.vl, .bool B.bad, .bool B.full] 109 (0, 0))
 tb : g b = (31, 0)
 l : Row w g (32, 0) 35 V.vl V.us
 ci : AllInts w V.us B.cls
 ct : ∀ i, i < B.cls.length → Tagged g (33, 0) (V.us.getD i nilS) (B.cls.getD i [])
 few : B.cls.length ≤ 262144
 short : ∀ c ∈ B.cls, c.length ≤ 1099511627
 fresh : Fresh w g
def BldTo (w : World) (g : Tag) (b : Nat) (B : Bld) (w' : World) : Prop := ∃ g' V', BldAt w' g' b V' B ∧ Agree w g g' ∧ Only (Mine g) w w'
section
variable {w : World} {g : Tag} {b : Nat} {V : BldV} {B : Bld}
theorem BldAt.only (H : BldAt w g b V B) {F : Nat → Prop} {w' : World} (ho : Only F w w') (hF : ∀ k, (g k).1 ≠ 0 → ¬ F k) : BldAt w' g b V B :=
 ⟨only_block H.blk ho (hF b (by rw [H.tb]; simp)), H.tb, H.l.only ho (fun k hk => hF k (by rw [hk]; simp)), H.ci.keepT H.ct ho (fun k hk => hF k (by rw [hk]; simp)), H.ct, H.few, H.short, H.fresh.more ho.size⟩
theorem BldAt.only0 (H : BldAt w g b V B) {w' : World} (ho : Only (fun _ => False) w w') : BldAt w' g b V B := H.only ho (fun _ _ f => f)
theorem BldTo.refl (H : BldAt w g b V B) : BldTo w g b B w := ⟨g, V, H, Agree.refl _ _, Only.refl _ _⟩
theorem BldTo.trans {g1 : Tag} {w1 w2 : World} {B2 : Bld} (ha : Agree w g g1) (ho : Only (Mine g) w w1) (h2 : BldTo w1 g1 b B2 w2) : BldTo w g b B2 w2 := by
 obtain ⟨g2, V2, H2, A2, O2⟩ := h2
 exact ⟨g2, V2, H2, ha.trans A2 ho.size, ho.mine ha O2⟩
theorem BldAt.intsS (H : BldAt w g b V B) : IntsS w V.vl B.cls := ⟨V.us, Cells.of_own H.l.own, H.ci⟩
def NewBld (w : World) (e : Ending) (w' : World) : Prop := ∃ b g V, e = .returned (.pointer (some ⟨b, 0, none⟩)) ∧ BldAt w' g b V ⟨[], false, false⟩ ∧ (∀ k, Mine g k → w.heap.size ≤ k) ∧ Only (fun _ => False) w w'
theorem NewBld.of (w : World) : NewBld w (.returned (.pointer (some ⟨w.heap.size, 0, none⟩))) (w.alloc (.cells #[.slice none 0 0, .bool false, .bool false] 109)) := by
 refine ⟨w.heap.size, fun k => if k = w.heap.size then (31, 0) else (0, 0), ⟨nilS, []⟩, rfl, ⟨heap_alloc_new w _, by simp, Row.nil _ _ _ _, ⟨rfl, by simp⟩, by simp, by simp, by simp, ?_⟩, fun k hk => ?_, (Only.refl _ w).alloc _⟩
 ·intro k hk
  simp at hk
  simp only
  rw [if_neg (by omega)]
 ·unfold Mine at hk
  simp only at hk
  split at hk
  ·omega
  ·simp at hk
theorem cnfNew_any (w : World) : Calls Tryz.prog 36 #[] w (NewBld w) := by
 have hm := NewBld.of w
 have HM := Lib.hid hm
 clear hm
 go_enter Tryz.func36, Tryz.ntmps36
 go_wp2_with fail
 go_ret
 exact HM.out
set_option maxHeartbeats 1600000 in
theorem Clauses_any (H : BldAt w g b V B) : Calls Tryz.prog 16 #[.pointer (some ⟨b, 0, none⟩)] w fun e w' => ∃ v us, e = .returned v ∧ OwnS w w' v us B.cls ∧ Only (fun _ => False) w w' := by
 have hI := H.intsS
 have hfew := H.few
 have HSh := Lib.hid H.short
 have q0 : w.cell? ⟨b, 0, none⟩ = some V.vl := by rw [cell_block H.blk]; rfl
 obtain ⟨ac, cc, hvl, hc1, hc2⟩ := hI.shape
 rw [hvl] at q0 hI
 clear hvl
 go_enter Tryz.func16, Tryz.ntmps16
 go_wp2_with fail
 go_loopw [3, 13] (fun vo v wr => ∃ (k : Nat) (us : List Value), v = .int .i64 k ∧ k ≤ B.cls.length ∧ us.length ≤ k ∧ OwnS w wr vo us (B.cls.take k) ∧ Only (fun _ => False) w wr) (fun _ v _ => B.cls.length - (intOf v).toNat)
 case atStart => exact ⟨0, [], rfl, Nat.zero_le _, Nat.zero_le _, OwnS.nil w w, Only.refl _ _⟩
 case round =>
  obtain ⟨k, us, rfl, hk, hus, hS, hO⟩ := hrel
  by_cases ck : k < B.cls.length
  ·obtain ⟨bb, off, u, rfl, _, q, hu⟩ := (hI.only0 hO).at ck
   have hcb := HSh.out _ (getD_mem' [] ck)
   have hts := take_snocL B.cls k ck
   obtain ⟨au, cu, rfl, _, _⟩ := hu.shape
   have HTS := Lib.hid hts
   clear hts
   generalize B.cls.getD k [] = c at *
   have hC := Clone_any hu (by omega)
   have HC := Lib.hid hC
   clear hC
   go_wp2_with fail
   refine HC.out.mono ?_
   rintro e w2 ⟨vf, rfl, R1, N1, O2⟩
   have hIf := Ints.of_own R1 hu.range
   have hS2 := hS.only0 O2
   have hO2 := hO.same O2
   have hap : 0 < c.length → ∀ j, Value.blk vf = some j → u3.ownBlock ≠ some j := by
    intro _ j hj hF
    have hj1 : vf.ownBlock = some j := by
     rcases R1.2 with ⟨h', _⟩ | ⟨g', cap', cur, h', _⟩
     ·rw [h'] at hj; simp [Value.blk] at hj
     ·rw [h'] at hj ⊢; simpa [Value.blk, Value.ownBlock] using hj
    have h1 := N1 j hj1
    have h2 := own_lt hS.row hF
    omega
   have HAp := Lib.hid hap
   clear hap
   obtain ⟨af, cf, rfl, _, _⟩ := hIf.shape
   go_wp2_with (at_builtin; go_must (refine wpA1 (u := .slice af c.length cf) slInts rfl (.tmp 17) (.tmp 20) rfl rfl rfl (cell_newE _ _ _ _ rfl) rfl (own_only hS2.row ((Only.refl (fun _ => False) _).alloc _) (fun _ _ f => f)) (by omega) (by decide) ?n3))
   intro v2 w3 s1 s2 s3
   have hsz := hO2.size
   have hS3 := (hS2.only0 ((Only.refl (fun _ => False) _).alloc (.cells #[.slice af c.length cf] 35))).snoc (by simp; omega) (hIf.only0 ((Only.refl (fun _ => False) _).alloc _)) HAp.out s1 s2 s3
   have hO3 : Only (fun _ => False) w w3 := (hO2.alloc _).trans s2 (fun k hk => .inr (hS2.new k hk))
   clear s1 s2 s3 hS2
   go_wp2_with fail
   go_roundw
   case rel =>
    refine ⟨k + 1, us ++ [.slice af c.length cf], by go_num, by omega, by simp; omega, ?_, hO3⟩
    rw [HTS.out]
    exact hS3
   case measure => simp [intOf]; omega
  ·have hk' : k = B.cls.length := by omega
   have hfin : OwnS w wr u3 us B.cls := by rw [hk', List.take_of_length_le (Nat.le_refl _)] at hS; exact hS
   have HFin := Lib.hid hfin
   clear hS hfin
   go_wp2_with fail
   go_ret
   exact ⟨_, us, rfl, HFin.out, hO⟩
end
def Bld.add (B : Bld) (xs : List Int) : Bld :=
 if xs.any Cnf.wr then { B with bad := true } else
 match Cnf.form xs with
 | none => B
 | some f => if 262144 ≤ B.cls.length then { B with full := true } else { B with cls := B.cls ++ [f] }
theorem form_len {xs f : List Int} (h : Cnf.form xs = some f) : f.length ≤ xs.length := by
 have h1 := compact_le (Cnf.sortL xs)
 have h2 : (Cnf.sortL xs).length = xs.length := List.length_mergeSort xs
 have hl : Lib.compact (Cnf.sortL xs) = Cnf.formL xs := rfl
 rw [hl] at h1
 unfold Cnf.form at h
 split at h
 ·cases h
 ·split at h
  ·cases h
  ·have := Option.some.inj h
   rw [← this]; omega
section
variable {w : World} {g : Tag} {b : Nat} {V : BldV} {B : Bld}
theorem BldAt.setBad (H : BldAt w g b V B) : BldTo w g b { B with bad := true } (w.setCell ⟨b, 1, none⟩ (.bool true)) := by
 have hF : ∀ {t : Nat × Nat}, t ≠ (31, 0) → g b ≠ t := fun {t} h e => h (e.symm.trans H.tb)
 have ho : Only (fun k => k = b) w (w.setCell ⟨b, 1, none⟩ (.bool true)) := Only.setCell (Only.refl (fun k => k = b) w) (p := ⟨b, 1, none⟩) (.inl rfl) _
 refine ⟨g, V, ⟨?_, H.tb, H.l.far (hF (by decide)) _, H.ci.keepT H.ct ho (fun k hk e => by rw [e, H.tb] at hk; simp at hk), H.ct, H.few, H.short, H.fresh.more ho.size⟩, Agree.refl _ _, (Only.refl _ w).setCell (.inl (by unfold Mine; rw [H.tb]; decide)) _⟩
 rw [set_block H.blk]; rfl
theorem BldAt.setFull (H : BldAt w g b V B) : BldTo w g b { B with full := true } (w.setCell ⟨b, 2, none⟩ (.bool true)) := by
 have hF : ∀ {t : Nat × Nat}, t ≠ (31, 0) → g b ≠ t := fun {t} h e => h (e.symm.trans H.tb)
 have ho : Only (fun k => k = b) w (w.setCell ⟨b, 2, none⟩ (.bool true)) := Only.setCell (Only.refl (fun k => k = b) w) (p := ⟨b, 2, none⟩) (.inl rfl) _
 refine ⟨g, V, ⟨?_, H.tb, H.l.far (hF (by decide)) _, H.ci.keepT H.ct ho (fun k hk e => by rw [e, H.tb] at hk; simp at hk), H.ct, H.few, H.short, H.fresh.more ho.size⟩, Agree.refl _ _, (Only.refl _ w).setCell (.inl (by unfold Mine; rw [H.tb]; decide)) _⟩
 rw [set_block H.blk]; rfl
def pushTag (w w2 : World) (g : Tag) : Tag := Tag.put g w.heap.size w2.heap.size (33, 0)
theorem pushTag_old {w w2 : World} {g : Tag} {k : Nat} (h : k < w.heap.size) : pushTag w w2 g k = g k := Tag.put_old _ _ h
theorem BldAt.rowAt (H : BldAt w g b V B) {w2 : World} (O2 : Only (fun _ => False) w w2) : Row w2 (pushTag w w2 g) (32, 0) 35 V.vl V.us :=
 H.l.keep O2 (fun _ _ f => f) (fun k hk => pushTag_old hk)
theorem BldAt.push (H : BldAt w g b V B) {w2 w3 : World} {vf v' : Value} {f : List Int} (O2 : Only (fun _ => False) w w2) (hf : Ints w2 vf f) (hnew : 0 < f.length → ∀ k, Value.blk vf = some k → w.heap.size ≤ k)
  (hfew : B.cls.length < 262144) (hsh : f.length ≤ 1099511627) {lo : Nat} (hlo : w2.heap.size ≤ lo) (R : Row w3 (Tag.put (pushTag w w2 g) lo w3.heap.size (32, 0)) (32, 0) 35 v' (V.us ++ [vf]))
  (O3 : Only (fun k => pushTag w w2 g k = (32, 0)) w2 w3) : BldTo w g b { B with cls := B.cls ++ [f] } (w3.setCell ⟨b, 0, none⟩ v') := by
 have hb := lt_block H.blk
 have hs2 := O2.size
 have hs3 := O3.size
 have A1 : Agree w g (pushTag w w2 g) := fun k hk => pushTag_old hk
 have A2 : Agree w2 (pushTag w w2 g) (Tag.put (pushTag w w2 g) lo w3.heap.size (32, 0)) := Agree.put _ _ hlo
 have A12 := A1.trans A2 hs2
 have hb1 : pushTag w w2 g b = (31, 0) := (A1 b hb).trans H.tb
 have hb2 : Tag.put (pushTag w w2 g) lo w3.heap.size (32, 0) b = (31, 0) := (A12 b hb).trans H.tb
 have ho : Only (fun k => k = b) w3 (w3.setCell ⟨b, 0, none⟩ v') := Only.setCell (Only.refl (fun k => k = b) w3) (p := ⟨b, 0, none⟩) (.inl rfl) _
 have hct2 : ∀ i, i < B.cls.length → Tagged (pushTag w w2 g) (33, 0) (V.us.getD i nilS) (B.cls.getD i []) := fun i hi => (H.ct i hi).agree (H.ci.2 i hi) A1
 have hci2 := H.ci.only0 O2
 have hci3 := hci2.keepT hct2 O3 (fun k hk e => by rw [hk] at e; simp at e)
 have htf : Tagged (pushTag w w2 g) (33, 0) vf f := fun hp k hk => Tag.put_new _ _ (hnew hp k hk) (hf.lt hp hk)
 have hf3 := hf.keepT htf O3 (fun k hk e => by rw [hk] at e; simp at e)
 have htf2 := htf.agree hf A2
 have hct3 : ∀ i, i < B.cls.length → Tagged (Tag.put (pushTag w w2 g) lo w3.heap.size (32, 0)) (33, 0) (V.us.getD i nilS) (B.cls.getD i []) := fun i hi => (hct2 i hi).agree (hci2.2 i hi) A2
 have hne : ∀ k, Tag.put (pushTag w w2 g) lo w3.heap.size (32, 0) k = (33, 0) → ¬ k = b := fun k hk e => by rw [e, hb2] at hk; simp at hk
 refine ⟨Tag.put (pushTag w w2 g) lo w3.heap.size (32, 0), ⟨v', V.us ++ [vf]⟩, ⟨?_, hb2, R.far (by rw [hb2]; simp) _, AllInts.snoc (hci3.keepT hct3 ho hne) (hf3.keepT htf2 ho hne), ?_, by simp; omega, ?_, ?_⟩, A12, ?_⟩
 ·rw [set_block (only_block (only_block H.blk O2 (fun f => f)) O3 (by rw [hb1]; simp))]; rfl
 ·intro i hi
  have hul := H.ci.1
  by_cases c : i < B.cls.length
  ·simp only
   rw [getD_app_l _ _ _ (by omega), getD_app_l _ _ _ c]
   exact hct3 i c
  ·simp only [List.length_append, List.length_singleton] at hi
   have : i = B.cls.length := by omega
   subst this
   simp only
   rw [getD_app_r _ _ _ (by omega), getD_app_r _ _ _ (by omega), hul]
   simpa using htf2
 ·intro c hc
  rcases List.mem_append.1 hc with h | h
  ·exact H.short c h
  ·rw [List.mem_singleton.1 h]; exact hsh
 ·intro k hk
  have hk' : w3.heap.size ≤ k := by simpa using hk
  rw [Tag.put_far _ _ hk']
  unfold pushTag
  rw [Tag.put_far _ _ (by omega)]
  exact H.fresh k (by omega)
 ·refine Only.setCell ?_ (.inl (by unfold Mine; rw [H.tb]; decide)) _
  refine (O2.mono (G := Mine g) fun _ f => f.elim).trans O3 (fun k hk => ?_)
  by_cases c : k < w.heap.size
  ·rw [pushTag_old c] at hk
   exact .inl (by unfold Mine; rw [hk]; decide)
  ·exact .inr (by omega)
set_option maxRecDepth 100000 in
set_option maxHeartbeats 3200000 in
theorem Add_any (H : BldAt w g b V B) {v : Value} {xs : List Int} (hI : Ints w v xs) (hb : xs.length ≤ 1099511627) :
  Calls Tryz.prog 58 #[.pointer (some ⟨b, 0, none⟩), v] w fun e w' => e = .returned (.tuple #[]) ∧ BldTo w g b (B.add xs) w' := by
 have eg86 : ∀ args w, (callFunc 87 args).run Tryz.prog w = .ok (.enter 87 args) w := enters_of Tryz.func87 (by kernel_rfl) rfl
 have hF := Form_any hI (by omega)
 obtain ⟨ao, cap, rfl, hc1, hc2⟩ := hI.shape
 have hCF : ∀ W, Only (fun _ => False) w W → ∀ r, xs.any Cnf.wr = r → _ := fun W hW r hr => ContainsFunc_int (hI.only0 hW) 87 #[] Cnf.wr eg86 (fun x _ W _ => (wrong_any x).mono fun _ _ ⟨he, hw⟩ => ⟨he, by rw [hw]; exact Only.refl _ _⟩) r hr
 have HF := Lib.hid hF
 have HCF := Lib.hid hCF
 have HI := Lib.hid hI
 clear hF hCF eg86
 have hfew := H.few
 go_enter Tryz.func58, Tryz.ntmps58
 go_wp2_with fail
 refine HF.out.mono ?_
 intro e w2 hp
 unfold FormPost at hp
 cases hany : xs.any Cnf.wr with
 | true =>
  have hform : Cnf.form xs = none := by unfold Cnf.form; rw [if_pos hany]
  rw [hform] at hp
  obtain ⟨rfl, O2⟩ := hp
  have hC := HCF.out w2 O2 true hany
  have HC := Lib.hid hC
  have hadd : B.add xs = { B with bad := true } := by unfold Bld.add; rw [if_pos hany]
  have HAdd := Lib.hid hadd
  clear hany hform hC HF HCF hadd
  go_wp2_with fail
  refine HC.out.mono ?_
  rintro e w3 ⟨rfl, O3⟩
  have hO := O2.same O3
  have H3 := H.only0 hO
  have q1 : w3.cell? ⟨b, 1, none⟩ = some (.bool B.bad) := by rw [cell_block H3.blk]; rfl
  have f1 := free_block H3.blk 1
  have hfin := BldTo.trans (Agree.refl _ _) (hO.mono (G := Mine g) fun _ f => f.elim) H3.setBad
  rw [← HAdd.out] at hfin
  have HFin := Lib.hid hfin
  clear hfin HC O2 O3
  go_wp2_with fail
  go_end0
  exact ⟨rfl, HFin.out⟩
 | false =>
  have hC := fun W hW => HCF.out W hW false hany
  have HC := Lib.hid hC
  clear hC HCF HF
  cases hform : Cnf.form xs with
  | none =>
   rw [hform] at hp
   obtain ⟨rfl, O2⟩ := hp
   have hadd : B.add xs = B := by unfold Bld.add; rw [if_neg (by rw [hany]; simp), hform]
   have HAdd := Lib.hid hadd
   clear hany hform hadd
   go_wp2_with fail
   refine (HC.out w2 O2).mono ?_
   rintro e w3 ⟨rfl, O3⟩
   have hO := O2.same O3
   have hfin := BldTo.trans (Agree.refl _ _) (hO.mono (G := Mine g) fun _ f => f.elim) (BldTo.refl (H.only0 hO))
   rw [← HAdd.out] at hfin
   have HFin := Lib.hid hfin
   clear hfin HC O2 O3
   go_wp2_with fail
   go_end0
   exact ⟨rfl, HFin.out⟩
  | some f =>
   rw [hform] at hp
   obtain ⟨vf, rfl, R2, N2, O2⟩ := hp
   have hadd : B.add xs = if 262144 ≤ B.cls.length then { B with full := true } else { B with cls := B.cls ++ [f] } := by unfold Bld.add; rw [if_neg (by rw [hany]; simp), hform]
   have HAdd := Lib.hid hadd
   have hrf := form_range HI.out.range hform
   have hfl : f.length ≤ xs.length := form_len hform
   have hIf := Ints.of_own R2 hrf
   have hN : 0 < f.length → ∀ k, Value.blk vf = some k → w.heap.size ≤ k := by
    intro _ j hj
    refine N2 j ?_
    rcases R2.2 with ⟨h', _⟩ | ⟨g', cap', cur, h', _⟩
    ·rw [h'] at hj; simp [Value.blk] at hj
    ·rw [h'] at hj ⊢; simpa [Value.blk, Value.ownBlock] using hj
   have HN := Lib.hid hN
   obtain ⟨af, cf, rfl, _, _⟩ := hIf.shape
   clear hany hform hadd hrf R2 N2 hN
   go_wp2_with fail
   refine (HC.out w2 O2).mono ?_
   rintro e w3 ⟨rfl, O3⟩
   have hO := O2.same O3
   have hIf3 := hIf.only0 O3
   have H3 := H.only0 hO
   have q0 : w3.cell? ⟨b, 0, none⟩ = some V.vl := by rw [cell_block H3.blk]; rfl
   have hul : V.us.length = B.cls.length := H3.ci.1
   have hrow := H.rowAt hO
   obtain ⟨al, cl, hvl, _, _⟩ := hrow.shape
   rw [hvl, hul] at q0
   have hrow' := hrow
   rw [hvl, hul] at hrow'
   have f0 := free_block H3.blk 0
   by_cases cf2 : 262144 ≤ B.cls.length
   ·have q2 : w3.cell? ⟨b, 2, none⟩ = some (.bool B.full) := by rw [cell_block H3.blk]; rfl
    have f2 := free_block H3.blk 2
    have hfin := BldTo.trans (Agree.refl _ _) (hO.mono (G := Mine g) fun _ f => f.elim) H3.setFull
    have hadd2 : B.add xs = { B with full := true } := by rw [HAdd.out, if_pos cf2]
    rw [← hadd2] at hfin
    have HFin := Lib.hid hfin
    have d1 : decide ((262144 : Int) ≤ (B.cls.length : Int)) = true := decide_eq_true (by omega)
    have d2 : decide (262144 ≤ B.cls.length) = true := decide_eq_true cf2
    clear hfin HC O2 O3 hadd2 cf2 hfew
    go_wp2_with fail
    go_end0
    exact ⟨rfl, HFin.out⟩
   ·have d1 : decide ((262144 : Int) ≤ (B.cls.length : Int)) = false := decide_eq_false (by omega)
    have d2 : decide (262144 ≤ B.cls.length) = false := decide_eq_false cf2
    have hadd2 : B.add xs = { B with cls := B.cls ++ [f] } := by rw [HAdd.out, if_neg cf2]
    have hlt : B.cls.length < 262144 := by omega
    have hpush := fun (w4 : World) (v4 : Value) (lo : Nat) (h1 : w3.heap.size ≤ lo) h2 h3 => H.push (w3 := w4) (v' := v4) hO hIf3 HN.out hlt (by omega) (lo := lo) h1 h2 h3
    have HP := Lib.hid hpush
    have HAdd2 := Lib.hid hadd2
    have HLt := Lib.hid hlt
    have hfz : ∀ o, (w3.alloc o).frozen? ⟨b, 0, none⟩ = false := fun o => free_keep q0 f0 ((Only.refl (fun _ => False) w3).alloc o) (fun f => f)
    clear hpush hadd2 cf2 hfew HC O2 O3
    have hul1 : V.us.length + 1 ≤ 1099511627776 := by omega
    clear hlt
    go_wp2_with (at_builtin; go_must (refine Row.app (u := .slice af f.length cf) slInts rfl (.tmp 38) (.tmp 40) rfl rfl rfl (cell_newE _ _ _ _ rfl) rfl (by exact Row.alloc hrow' _) hul1 (by decide) ?n3))
    intro v4 w4 s1 s2
    have hfin := HP.out w4 v4 _ (by simp) s1 (Only.same ((Only.refl _ w3).alloc _) s2)
    rw [← HAdd2.out] at hfin
    have HFin := Lib.hid hfin
    have z0 := cell_keep q0 (Only.same ((Only.refl _ w3).alloc _) s2) (by rw [pushTag_old (lt_block H.blk), H.tb]; simp)
    have zf := free_keep q0 f0 (Only.same ((Only.refl _ w3).alloc _) s2) (by rw [pushTag_old (lt_block H.blk), H.tb]; simp)
    obtain ⟨a4, c4, rfl, _, _⟩ := s1.shape
    clear hfin s1 s2 HP
    go_wp2_with fail
    go_end0
    have hl3 : (V.us ++ [Value.slice af f.length cf]).length = B.cls.length + 1 := by simp [hul]
    have hfin := HFin.out
    rw [hl3] at hfin
    exact ⟨rfl, hfin⟩
end
end Go.Proofs.YtbapkcnfacklaaaGreat

/- cnf.Builder as an object: New, Clauses. -/
import Derived.Test.YtbapkcnfacklaaaOwnS
import Derived.Test.YtbapkcnfacklaaaCnf
import Derived.Test.YtbapkcnfacklaaaCnfLaw
import Derived.Test.YtbapkcnfacklaaaAtA
import Derived.Test.YtbapkcnfacklaaaRef12
set_option linter.unusedVariables false
namespace Go.Proofs.Ytbapkcnfacklaaa
open Go.RowKit
structure Bld where
 cls : List (List Int)
 bad : Bool
 full : Bool
structure BldV where
 vl : Value
 us : List Value
structure BldAt (w : World) (g : Tag) (b : Nat) (V : BldV) (B : Bld) : Prop where
 blk : w.heap[b]? = some (.cells #[V.vl, .bool B.bad, .bool B.full] 105 (0, 0))
 tb : g b = (31, 0)
 l : Row w g (32, 0) 32 V.vl V.us
 ci : AllInts w V.us B.cls
 ct : ∀ i, i < B.cls.length → Tagged g (33, 0) (V.us.getD i nilS) (B.cls.getD i [])
 few : B.cls.length ≤ 262144
 short : ∀ c ∈ B.cls, c.length ≤ 1099511627
 fresh : Fresh w g
def BldTo (w : World) (g : Tag) (b : Nat) (B : Bld) (w' : World) : Prop := ∃ g' V', BldAt w' g' b V' B ∧ Agree w g g' ∧ Only (Mine g) w w'
section
variable {w : World} {g : Tag} {b : Nat} {V : BldV} {B : Bld}
theorem BldAt.only (H : BldAt w g b V B) {F : Nat → Prop} {w' : World} (ho : Only F w w') (hF : ∀ k, (g k).1 ≠ 0 → ¬ F k) : BldAt w' g b V B :=
 ⟨only_block H.blk ho (hF b (by rw [H.tb]; simp)), H.tb, H.l.only ho (fun k hk => hF k (by rw [hk]; simp)), H.ci.keepT H.ct ho (fun k hk => hF k (by rw [hk]; simp)), H.ct, H.few, H.short, H.fresh.more ho.size⟩
theorem BldAt.only0 (H : BldAt w g b V B) {w' : World} (ho : Only (fun _ => False) w w') : BldAt w' g b V B := H.only ho (fun _ _ f => f)
theorem BldTo.refl (H : BldAt w g b V B) : BldTo w g b B w := ⟨g, V, H, Agree.refl _ _, Only.refl _ _⟩
theorem BldTo.trans {g1 : Tag} {w1 w2 : World} {B2 : Bld} (ha : Agree w g g1) (ho : Only (Mine g) w w1) (h2 : BldTo w1 g1 b B2 w2) : BldTo w g b B2 w2 := by
 obtain ⟨g2, V2, H2, A2, O2⟩ := h2
 exact ⟨g2, V2, H2, ha.trans A2 ho.size, ho.mine ha O2⟩
theorem BldAt.intsS (H : BldAt w g b V B) : IntsS w V.vl B.cls := ⟨V.us, Cells.of_own H.l.own, H.ci⟩
def NewBld (w : World) (e : Ending) (w' : World) : Prop := ∃ b g V, e = .returned (.pointer (some ⟨b, 0, none⟩)) ∧ BldAt w' g b V ⟨[], false, false⟩ ∧ (∀ k, Mine g k → w.heap.size ≤ k) ∧ Only (fun _ => False) w w'
theorem NewBld.of (w : World) : NewBld w (.returned (.pointer (some ⟨w.heap.size, 0, none⟩))) (w.alloc (.cells #[.slice none 0 0, .bool false, .bool false] 105)) := by
 refine ⟨w.heap.size, fun k => if k = w.heap.size then (31, 0) else (0, 0), ⟨nilS, []⟩, rfl, ⟨heap_alloc_new w _, by simp, Row.nil _ _ _ _, ⟨rfl, by simp⟩, by simp, by simp, by simp, ?_⟩, fun k hk => ?_, (Only.refl _ w).alloc _⟩
 ·intro k hk
  simp at hk
  simp only
  rw [if_neg (by omega)]
 ·unfold Mine at hk
  simp only at hk
  split at hk
  ·omega
  ·simp at hk
theorem cnfNew_any (w : World) : Calls Try.prog 44 #[] w (NewBld w) := by
 have hm := NewBld.of w
 have HM := Lib.hid hm
 clear hm
 go_enter Try.func44, Try.ntmps44
 go_wp2_with fail
 go_ret
 exact HM.out
set_option maxHeartbeats 1600000 in
theorem Clauses_any (H : BldAt w g b V B) : Calls Try.prog 29 #[.pointer (some ⟨b, 0, none⟩)] w fun e w' => ∃ v us, e = .returned v ∧ OwnS w w' v us B.cls ∧ Only (fun _ => False) w w' := by
 have hI := H.intsS
 have hfew := H.few
 have HSh := Lib.hid H.short
 have q0 : w.cell? ⟨b, 0, none⟩ = some V.vl := by rw [cell_block H.blk]; rfl
 obtain ⟨ac, cc, hvl, hc1, hc2⟩ := hI.shape
 rw [hvl] at q0 hI
 clear hvl
 go_enter Try.func29, Try.ntmps29
 go_wp2_with fail
 go_loopw [3, 13] (fun vo v wr => ∃ (k : Nat) (us : List Value), v = .int .i64 k ∧ k ≤ B.cls.length ∧ us.length ≤ k ∧ OwnS w wr vo us (B.cls.take k) ∧ Only (fun _ => False) w wr) (fun _ v _ => B.cls.length - (intOf v).toNat)
 case atStart => exact ⟨0, [], rfl, Nat.zero_le _, Nat.zero_le _, OwnS.nil w w, Only.refl _ _⟩
 case round =>
  obtain ⟨k, us, rfl, hk, hus, hS, hO⟩ := hrel
  by_cases ck : k < B.cls.length
  ·obtain ⟨bb, off, u, rfl, _, q, hu⟩ := (hI.only0 hO).at ck
   have hcb := HSh.out _ (getD_mem' [] ck)
   have hts := take_snocL B.cls k ck
   obtain ⟨au, cu, rfl, _, _⟩ := hu.shape
   have HTS := Lib.hid hts
   clear hts
   generalize B.cls.getD k [] = c at *
   have hC := Clone_any hu (by omega)
   have HC := Lib.hid hC
   clear hC
   go_wp2_with fail
   refine HC.out.mono ?_
   rintro e w2 ⟨vf, rfl, R1, N1, O2⟩
   have hIf := Ints.of_own R1 hu.range
   have hS2 := hS.only0 O2
   have hO2 := hO.same O2
   have hap : 0 < c.length → ∀ j, Value.blk vf = some j → u3.ownBlock ≠ some j := by
    intro _ j hj hF
    have hj1 : vf.ownBlock = some j := by
     rcases R1.2 with ⟨h', _⟩ | ⟨g', cap', cur, h', _⟩
     ·rw [h'] at hj; simp [Value.blk] at hj
     ·rw [h'] at hj ⊢; simpa [Value.blk, Value.ownBlock] using hj
    have h1 := N1 j hj1
    have h2 := own_lt hS.row hF
    omega
   have HAp := Lib.hid hap
   clear hap
   obtain ⟨af, cf, rfl, _, _⟩ := hIf.shape
   go_wp2_with (at_builtin; go_must (refine wpA1 (u := .slice af c.length cf) slInts rfl (.tmp 17) (.tmp 20) rfl rfl rfl (cell_newE _ _ _ _ rfl) rfl (own_only hS2.row ((Only.refl (fun _ => False) _).alloc _) (fun _ _ f => f)) (by omega) (by decide) ?n3))
   intro v2 w3 s1 s2 s3
   have hsz := hO2.size
   have hS3 := (hS2.only0 ((Only.refl (fun _ => False) _).alloc (.cells #[.slice af c.length cf] 32))).snoc (by simp; omega) (hIf.only0 ((Only.refl (fun _ => False) _).alloc _)) HAp.out s1 s2 s3
   have hO3 : Only (fun _ => False) w w3 := (hO2.alloc _).trans s2 (fun k hk => .inr (hS2.new k hk))
   clear s1 s2 s3 hS2
   go_wp2_with fail
   go_roundw
   case rel =>
    refine ⟨k + 1, us ++ [.slice af c.length cf], by go_num, by omega, by simp; omega, ?_, hO3⟩
    rw [HTS.out]
    exact hS3
   case measure => simp [intOf]; omega
  ·have hk' : k = B.cls.length := by omega
   have hfin : OwnS w wr u3 us B.cls := by rw [hk', List.take_of_length_le (Nat.le_refl _)] at hS; exact hS
   have HFin := Lib.hid hfin
   clear hS hfin
   go_wp2_with fail
   go_ret
   exact ⟨_, us, rfl, HFin.out, hO⟩
end
end Go.Proofs.Ytbapkcnfacklaaa

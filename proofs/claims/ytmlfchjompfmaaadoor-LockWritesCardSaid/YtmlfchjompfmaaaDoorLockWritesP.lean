/-
  PROVED HERE: LockWrites returns true for every input, and changes nothing that was there (Rows.LockWritesSaid, without a condition).
  The frame of the row's proof follows what proof-skeleton.mjs prints; the walk is LockWrites_walk of YtmlfchjompfmaaaDoorLkL2.
-/
import Derived.Test.YtmlfchjompfmaaaDoorLkL2
import Derived.Test.YtmlfchjompfmaaaDoorLaidW
import Derived.Test.YtmlfchjompfmaaaDoorTie
import Derived.Test.YtmlfchjompfmaaaDoorCards
import Derived.SevenTiedAt
import Derived.SizedLaws
import Derived.Test.YtmlfchjompfmaaaDoorLkO
import Derived.Deep.Slices
import Derived.Deep.Fields
import Derived.Test.YtmlfchjompfmaaaDoorRows
import Derived.WalkKit
import Derived.ProofKit
import Derived.OpenShut
import Derived.ShutString
import Derived.ChangeOld
import Derived.Below
namespace Go.Proofs.YtmlfchjompfmaaaDoor.lockWrites
open Go.ChangeShapes Go.WideShapes Go.ChangeAt Go.RowKit
open Go.Deep
open Go.ChangeMaps (open_string shut_string)
set_option linter.unusedVariables false

theorem own : ownKnob Tryd.prog.godebug = none := by kernel_rfl
theorem laidOut : laidOutB Tryd.prog = true := by kernel_rfl

/-! ### THE ROW's STEP -/
theorem witness_row (os : Os) {H : Type} (enc : TypeId × Value → H) :
    (OpenSpec.ofChange Rows.lockWritesSpec).preRow enc Tryd.prog Tryd.f5 Rows.lockWritesRow.domain false Rows.lockWritesRow.laid ((laidW os).forCall (fun _ _ => 0) ⟨#[], #[.agg #[.slice none 0 0]], []⟩).memory #[.agg #[.slice none 0 0]] :=
  ⟨⟨ChangeSpec.pre_of_preB (fuel := 8) (by kernel_rfl), laidW_met os _⟩, sizedMet_of_sizedB (fuel := 8) (by kernel_rfl)⟩

set_option maxRecDepth 100000 in
theorem lifted (os : Os) (started : os.Started) (H : Type) (enc : TypeId × Value → H) (F : Stop.Interp) :
    ReturnsInHanded {} Tryd.checked os 5 .any ((OpenSpec.ofChange Rows.lockWritesSpec).preRow enc Tryd.prog Tryd.f5 Rows.lockWritesRow.domain false Rows.lockWritesRow.laid) (((OpenSpec.ofChange Rows.lockWritesSpec).at F).post enc Tryd.prog Tryd.f5 false true false false) := by
  refine returnsInHanded_of_row (C := Tryd.checked) (s := OpenSpec.ofChange Rows.lockWritesSpec) own started (by kernel_rfl) Tryd.func5
    (witness_row_atRef (enc := enc) (C := Tryd.checked) false (laidW os) #[.agg #[.slice none 0 0]] rfl (by kernel_rfl) (by kernel_rfl) (by kernel_rfl) (witness_row os enc)) ?_
  intro W base args ds gs before hval0 hW hcnd _ hsz0 hL hSh _
  have HL : Laid W := laid_of hL
  have hval : ∀ (j : Nat) t v, Tryd.f5.params[j]? = some t → args[j]? = some v → Value.okWide Tryd.prog W .any base t v := hval0
  have hW' := hW
  obtain ⟨p, q, hA0, hV, rfl, hfz, hnd⟩ := hW
  have hA : DataW.TrodAll enc Tryd.prog W 0 (fun _ => true) true Tryd.f5.params.toList args.toList ds p := hA0
  rw [Tryd.params5] at hA hval
  obtain ⟨v0, vs0, d0, ds0, p0, q0, hargs, rfl, rfl, h0, r0⟩ := trodAll_cons hA
  obtain ⟨rfl, rfl, rfl⟩ := trodAll_nil r0
  obtain rfl : args = #[v0] := by cases args; simp_all
  obtain ⟨rfl, rfl⟩ := trodVars_none hV
  obtain ⟨l0, rfl⟩ : ∃ l : List Value, v0 = .agg l.toArray := by
    obtain ⟨a, rfl, -⟩ := okWide_struct Tryd.underlying39 (hval 0 39 v0 rfl rfl)
    exact ⟨a.toList, by simp⟩
  have k0 := h0
  have lt0 : ∀ x ∈ p0, x.block < W.heap.size := by obtain ⟨m, hm⟩ := k0; exact DataW.trod_lt m _ _ _ hm
  obtain ⟨c0, hI0⟩ : ∃ c, GraC W.heap.size W l0 c := by
    obtain ⟨fuel, hf⟩ := h0
    exact reads_gra (by simpa [Value.cells] using hf)
  clear hA0 hval0
  refine (LockWrites_walk hI0 HL hSh).mono fun e W' ⟨he, ho⟩ => ?_
  have bel := ho.below0
  subst he
  exact ⟨_, rfl, _, _, _, [], _, [], hW', trodAll_mk1 (shut_bool Tryd.underlying4 _), (trodAll_cons_mk (Below.trod laidOut (by kernel_rfl) (of_decide_eq_true (by kernel_rfl)) k0 bel lt0) trodAll_mk0), rfl, bel.frame _, fun h => by cases h⟩

theorem over : Rows.LockWritesSaid :=
  OpenClaim.holds_of_cond 5 Tryd.f5 rfl rfl rfl rfl rfl rfl rfl ⟨rfl, rfl, rfl, rfl, rfl⟩ rfl rfl rfl rfl rfl (by kernel_rfl) Tryd.func5 (by kernel_rfl)
    (of_decide_eq_true (by kernel_rfl)) (by unfold Func.isWrapper; first | (rw [if_pos (by decide +kernel)]; kernel_rfl) | (rw [if_neg (by decide +kernel)]; exact ⟨rfl, rfl⟩))
    (fun os started H enc _ F0 => by rw [OpenClaim.pre_eq_preRow]; exact lifted os started H enc F0)

/-- THE STATEMENT: the card -/
theorem proved : Rows.LockWritesCardSaid :=
  Claim7.holds_tied_plain_at .later [] [.data, .data, .data, .data, .sentinel, .sentinel, .pinned] true (true, "c1b6030958343d3d37021840c7eb1b44f7279dc7a683025da1aee2cc81e54f4e") true
    over (fun _ h => by cases h) (by kernel_rfl) (fun _ h => by cases h) lockWrites_row_tie rfl ⟨rfl, rfl⟩ (by kernel_rfl) rfl
    (fun f fn hf hfn => by
      obtain rfl : f = 5 := Option.some.inj ((show Tryd.prog.funcNamed "cooper/cooperlaw28.LockWrites" = some 5 by kernel_rfl).symm.trans hf) |>.symm
      obtain rfl : fn = Tryd.f5 := (Option.some.inj (Tryd.func5.symm.trans hfn)).symm
      exact ⟨by kernel_rfl, fun j t ht => by
        rw [Tryd.params5] at ht
        have h3 : t = 39 := by
          rcases j with _ | j
          · have e := ht.symm; simp at e; simp [e]
          · simp at ht
        rcases h3 with rfl
        · exact (show Tryd.prog.wantsStandIn 39 = false by kernel_rfl)⟩)
    (by kernel_rfl)
#print axioms proved
end Go.Proofs.YtmlfchjompfmaaaDoor.lockWrites

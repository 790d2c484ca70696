/- The chapter's example, fixed(), is true; the nil heap. -/
import Derived.Test.YtgbdmembacjooaaHeapW6
namespace Go.Proofs.Ytgbdmembacjooaa
open Go.RowKit

section
variable {w : World} {b : Nat} {vl va vs : Value} {h : Hp}

theorem Pop_at (H : HeapAt w b vl va vs h) (o : h.Ok) (hL : 0 < h.L.length) (r : Int) (hr : (h.at1 0 : Int) + 1 = r) : Calls Try.prog 10 #[.pointer (some ⟨b, 0, none⟩)] w fun e w' =>
    e = .returned (.int .i64 r) ∧ (∃ vl', HeapAt w' b vl' va vs h.pop ∧ ∀ k, HFoot b vl' va vs k → HFoot b vl va vs k) ∧ h.pop.Ok ∧ Only (HFoot b vl va vs) w w' := by
  subst hr
  exact Pop_any H o hL

set_option maxHeartbeats 1600000 in
set_option maxRecDepth 100000 in
theorem fixed_any : Calls Try.prog 7 #[] w fun e w' => e = .returned (.bool true) ∧ Only (fun _ => False) w w' := by
  go_enter Try.func7, Try.ntmps7
  go_wp2_with fail
  refine (New_any _ 3 (by omega) (.inl rfl)).mono ?_
  rintro e w1 ⟨b, vl, va, vs, rfl, H, hF, O⟩
  go_wp2_with fail
  have o := Hp.new_ok 3 (by omega)
  refine (Bump_any H o 1 (by decide) 5 (by omega) _ _ rfl rfl).mono ?_
  rintro e w2 ⟨rfl, H2, o2, O2⟩
  go_wp2_with fail
  refine (Pop_at H2 o2 (by decide) 2 (by decide)).mono ?_
  rintro e w3 ⟨rfl, ⟨vl3, H3, F3⟩, o3, O3⟩
  go_wp2_with fail
  refine (Pop_at H3 o3 (by decide) 1 (by decide)).mono ?_
  rintro e w4 ⟨rfl, ⟨vl4, H4, F4⟩, o4, O4⟩
  go_wp2_with fail
  refine (Pop_at H4 o4 (by decide) 3 (by decide)).mono ?_
  rintro e w5 ⟨rfl, ⟨vl5, H5, F5⟩, o5, O5⟩
  go_wp2_with fail
  refine (Pop_none H5 (by decide)).mono ?_
  rintro e w6 ⟨rfl, rfl⟩
  go_wp2_with fail
  go_ret
  refine ⟨rfl, ?_⟩
  have hs := O.size
  refine (((O.trans O2 fun i hi => .inr (hF i hi)).trans O3 fun i hi => .inr (hF i hi)).trans O4 fun i hi => .inr (hF i (F3 i hi))).trans O5 fun i hi => .inr (hF i (F3 i (F4 i hi)))

set_option maxHeartbeats 800000 in
theorem HeapNil_walk (a0 : Int) (a1 : Int) : Calls Try.prog 6 #[.int .i64 a0, .int .u64 a1] w fun e w' => e = .returned (.bool true) ∧ Only (fun _ => False) w w' := by
  go_enter Try.func6, Try.ntmps6
  go_wp2_with fail
  refine (Bump_nil a0 a1).mono ?_
  rintro e w1 ⟨rfl, rfl⟩
  go_wp2_with fail
  refine Halve_nil.mono ?_
  rintro e w1 ⟨rfl, rfl⟩
  go_wp2_with fail
  refine fixed_any.mono ?_
  rintro e w1 ⟨rfl, O1⟩
  go_wp2_with fail
  refine (Push_nil a0).mono ?_
  rintro e w2 ⟨rfl, rfl⟩
  go_wp2_with fail
  refine Pop_nil.mono ?_
  rintro e w2 ⟨rfl, rfl⟩
  go_wp2_with fail
  refine (Has_nil a0).mono ?_
  rintro e w2 ⟨rfl, rfl⟩
  go_wp2_with fail
  refine Len_nil.mono ?_
  rintro e w2 ⟨rfl, rfl⟩
  go_wp2_with fail
  refine (Score_nil a0).mono ?_
  rintro e w2 ⟨rfl, rfl⟩
  go_wp2_with fail
  go_ret
  exact ⟨rfl, O1⟩
end
end Go.Proofs.Ytgbdmembacjooaa

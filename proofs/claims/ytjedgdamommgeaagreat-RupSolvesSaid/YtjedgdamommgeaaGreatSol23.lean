/- A question's proof, in memory and plain. -/
import Derived.Test.YtjedgdamommgeaaGreatSol22
import Derived.Test.YtjedgdamommgeaaGreatSvR
import Derived.Test.YtjedgdamommgeaaGreatRupL3
import Derived.Test.YtjedgdamommgeaaGreatRup9
import Derived.Test.YtjedgdamommgeaaGreatRef12F
set_option linter.unusedVariables false
namespace Go.Proofs.YtjedgdamommgeaaGreat
open Go.RowKit
open Tr
theorem NewSv.only0 {w w1 w2 : World} {b : Nat} {S : Sv.St} (h : NewSv w b S w1) (ho : Only (fun _ => False) w1 w2) : NewSv w b S w2 := by
 obtain ⟨G, V, H, p, hm, on⟩ := h
 exact ⟨G, V, H.only0 ho, p, hm, on.same ho⟩
theorem NewSv.proof {w w1 : World} {b : Nat} {S : Sv.St} (h : NewSv w b S w1) (hlen : S.proof.length ≤ 1000000) (hcl : ∀ p ∈ S.proof, p.2.length ≤ 17592186043904) :
  Calls Tryz.prog 16 #[.pointer (some ⟨b, 0, none⟩)] w1 fun e w' => ∃ v, e = .returned v ∧ StepsAt w' v S.proof ∧ Only (fun _ => False) w1 w' := by
 obtain ⟨G, V, H, p, hm, on⟩ := h
 exact solve_Proof_any H hlen hcl
namespace Rup
theorem more_ok {C : Chk} (h : C.Ok) {c : List Int} (hr : ∀ x ∈ c, InI64 x) (hb : C.cls.length + 1 ≤ 1000000) : (C.more c).Ok := by
 unfold Chk.more
 split
 ·exact h
 ·rename_i f hf
  exact h.add (formR_ok hr hf).1 (by omega)
theorem all_ok : ∀ (css : List (List Int)) (C : Chk), C.Ok → C.cls.length + css.length ≤ 1000000 → (∀ c ∈ css, ∀ x ∈ c, InI64 x) → (C.all css).Ok
 | [], C, h, _, _ => h
 | c :: r, C, h, hb, hr => by
  simp only [List.length_cons] at hb
  have := more_len C c
  exact all_ok r (C.more c) (more_ok h (hr c (by simp)) (by omega)) (by omega) (fun d hd => hr d (by simp [hd]))
end Rup
theorem among_start {n : Nat} (hn : n ≤ 30) (css : List (List Int)) (hb : css.length ≤ 1000) (hr : ∀ c ∈ css, ∀ x ∈ c, InI64 x) : ∀ k, k ≤ css.length → Sv.AmongA ((Sv.St.new n).addAll (css.take k)).T ((css.take k).filterMap (Rup.formR n)) := by
 intro k
 induction k with
 | zero =>
  intro _ m hm
  have := hm.1
  simp [Sv.St.addAll, Sv.St.new, Tr.new] at this
 | succ k ih =>
  intro hk m hm
  have htk : css.take (k + 1) = css.take k ++ [css.getD k []] := take_snocC css [] k (by omega)
  have hF := Sv.Fresh.addAll (n := n) (by omega) (css.take k) (fun c hc => hr c (List.mem_of_mem_take hc)) (by rw [List.length_take]; omega)
  have ih := ih (by omega)
  rw [htk, Sv.addAll_snoc'] at hm ⊢
  rw [List.filterMap_append]
  generalize (Sv.St.new n).addAll (css.take k) = S at *
  have hT : (S.add (css.getD k [])).T = S.T.addX (css.getD k []) := by unfold Sv.St.add; simp only; rw [Sv.back_none hF.lev]
  rw [hT] at hm ⊢
  have hSn : S.T.n = n := hF.holds.hn
  rcases Sv.kept_cases (T := S.T) (css.getD k []) with ⟨f, f1, f2, f3, f4, f5⟩ | ⟨f2, f4, f5⟩
  ·rw [f4] at hm ⊢
   rcases (Tr.add_live hF.holds.inv.ok f m).1 hm with h1 | rfl
   ·rw [Tr.add_cl _ _ h1.1]
    obtain ⟨d, hd, p⟩ := ih m h1
    exact ⟨d, List.mem_append_left _ hd, p⟩
   ·rw [Tr.add_new]
    refine ⟨f, List.mem_append_right _ ?_, List.Perm.refl _⟩
    rw [List.mem_filterMap]
    refine ⟨css.getD k [], by simp, ?_⟩
    rw [Rup.formR_some f1, if_neg]
    rw [Bool.not_eq_true, List.any_eq_false]
    intro x hx
    have := f3 x hx
    rw [hSn] at this
    rw [Rup.okAt_lit this (by omega)]
    simp
  ·rw [f4] at hm ⊢
   obtain ⟨d, hd, p⟩ := ih m hm
   exact ⟨d, List.mem_append_left _ hd, p⟩
theorem first_proof {n : Nat} (hn : n ≤ 30) {css : List (List Int)} (hb : css.length ≤ 1000) (hr : ∀ c ∈ css, ∀ x ∈ c, InI64 x) {qs : List Int} (has : ∀ a ∈ qs, a ≠ 0 ∧ a.natAbs ≤ n) {S2 : Sv.St} {a : Sv.Ans}
  (hR : Sv.Run Sv.paceF qs 300 ((Sv.St.new n).addAll css) 0 S2 a) : Sv.Proved n css S2.proof a := by
 have hF := Sv.Fresh.addAll (n := n) (by omega) css hr (by omega)
 obtain ⟨r1, r2, r3, r4, r5, r6⟩ := hF.rest
 have hl := hF.len
 have hst : ∃ C, Sv.PInv n css ((Sv.St.new n).addAll css).T ((Sv.St.new n).addAll css).proof C := by
  refine ⟨Rup.start n css, by rw [r6]; rfl, ?_, (Rup.all_n _ _).trans rfl, ?_⟩
  ·rw [r6]
   exact rup_start_rest (Rup.all_ok css _ (Rup.Chk.zero_ok (by omega)) (by show 0 + css.length ≤ _; omega) hr) (by simp only [List.length_nil]; omega)
  ·have := among_start hn css hb hr css.length (Nat.le_refl _)
   rw [List.take_of_length_le (Nat.le_refl _)] at this
   rw [Rup.start_live]
   exact this
 refine Sv.Run.proof has hR rfl hF.holds (Sv.DecOk.start hF.lev) (by omega) (by omega) (by omega) (by rw [r1]; simp) (by rw [r4]; decide) (by rw [r6]; simp) r5 (by rw [r6]; simp) hst
end Go.Proofs.YtjedgdamommgeaaGreat

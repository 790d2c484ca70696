/- The plain law of RupMore: what follows at once of clauses does so of more of them, in whatever order. -/
import Derived.Test.YtjbfgafkjejdjaaRupLaw
namespace Go.Proofs.Ytjbfgafkjejdjaa
namespace Rup

theorem followsB_iff {N : Nat} {css : List (List Int)} (hr : ∀ c ∈ css, ∀ x ∈ c, InI64 x) {c : List Int} (hc : ∀ x ∈ c, InI64 x) :
    followsB N css c = true ↔ c.any (fun x => !Cnf.okAt N x) = false ∧ ∀ f, Cnf.form c = some f → Up.Conf (f.map fun x => -x) (css.filterMap (formR N)) := by
  unfold followsB
  cases hok : c.any (fun x => !Cnf.okAt N x)
  · simp only [Bool.false_eq_true, if_false]
    cases hf : Cnf.form c with
    | none => simp
    | some f =>
      have hfr := formR_of_ok hok
      rw [hf] at hfr
      have hfo := formR_ok hc hfr
      simp only [start_live]
      rw [Up.conf_iff (fun c hc => (kept_cls hr c hc).1) hfo.2.2.2]
      simp
  · simp

theorem followsB_mono {N : Nat} {css dss : List (List Int)} (hr : ∀ c ∈ css, ∀ x ∈ c, InI64 x) (hs : ∀ c ∈ dss, ∀ x ∈ c, InI64 x) {c : List Int} (hc : ∀ x ∈ c, InI64 x) (hsub : ∀ d ∈ css, d ∈ dss)
    (h : followsB N css c = true) : followsB N dss c = true := by
  rw [followsB_iff hr hc] at h
  rw [followsB_iff hs hc]
  refine ⟨h.1, fun f hf => (h.2 f hf).mono (fun _ h => h) (fun d hd => ?_)⟩
  obtain ⟨e, he, hfe⟩ := List.mem_filterMap.1 hd
  exact List.mem_filterMap.2 ⟨e, hsub e he, hfe⟩

theorem followsB_same {N : Nat} {css dss : List (List Int)} (hr : ∀ c ∈ css, ∀ x ∈ c, InI64 x) (hs : ∀ c ∈ dss, ∀ x ∈ c, InI64 x) {c : List Int} (hc : ∀ x ∈ c, InI64 x) (h1 : ∀ d ∈ css, d ∈ dss) (h2 : ∀ d ∈ dss, d ∈ css) :
    followsB N dss c = followsB N css c := by
  rw [Bool.eq_iff_iff]
  exact ⟨followsB_mono hs hr hc h2, followsB_mono hr hs hc h1⟩
end Rup
end Go.Proofs.Ytjbfgafkjejdjaa

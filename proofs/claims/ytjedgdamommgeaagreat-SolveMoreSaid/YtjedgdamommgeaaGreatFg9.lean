/- What is dropped, step by step; which notes stay. No program in sight. -/
import Derived.Test.YtjedgdamommgeaaGreatFg8
import Derived.Test.YtjedgdamommgeaaGreatSvA
set_option linter.unusedVariables false
namespace Go.Proofs.YtjedgdamommgeaaGreat
open Go.RowKit
open Tr
namespace Sv
def lockedB (T : Trail) (k : Int) : Bool := ((T.clauseL k).getD []).any fun l => T.why l == k
def St.gone1 (S : St) (gs : List Int) : St := { S with T := dropAll S.T gs, proof := S.proof ++ gs.map fun k => (true, (S.T.clauseL k).getD []) }
theorem gone1_nil (S : St) : S.gone1 [] = S := by
 unfold St.gone1 dropAll
 simp
theorem dropAll_snoc (T : Trail) (gs : List Int) (k : Int) : dropAll T (gs ++ [k]) = (dropAll T gs).drop k := by
 unfold dropAll; rw [List.foldl_append]; rfl
theorem gone1_snoc (S : St) (gs : List Int) (k : Int) {c : List Int} (hc : S.T.clauseL k = some c) : S.gone1 (gs ++ [k]) = { S.gone1 gs with T := (dropAll S.T gs).drop k, proof := (S.gone1 gs).proof ++ [(true, c)] } := by
 unfold St.gone1
 rw [dropAll_snoc]
 simp [hc]
structure MarksOk (S : St) (ms : List Bool) : Prop where
 len : ms.length = S.learnt.length
 at_ : ∀ i (h : i < S.learnt.length), ms.getD i false = lockedB S.T (S.learnt[i]'h).num
theorem GoneOf.gone {n : Nat} {O : List (List Int)} {S : St} (hh : Holds n O S) {ms : List Bool} (hm : MarksOk S ms) {gone : List Int} (hg : GoneOf (noteQ S.learnt ms) gone) : Gone S gone := by
 obtain ⟨m, r, hp, hq⟩ := hg.sub
 have hsub : ∀ x ∈ m, x ∈ (noteQ S.learnt ms).filter fun x => !staysN x := fun x hx => hp.mem_iff.1 (List.mem_append_left _ hx)
 have hnums : (noteQ S.learnt ms).map (·.num) = S.learnt.map (·.num) := by
  unfold noteQ
  rw [List.map_map]
  have : S.learnt.map (·.num) = (S.learnt.zip ms).map fun p => p.1.num := by
   have h1 : S.learnt = (S.learnt.zip ms).map Prod.fst := by rw [List.map_fst_zip (by rw [hm.len]; exact Nat.le_refl _)]
   conv => lhs; rw [h1]
   rw [List.map_map]; rfl
  rw [this]; rfl
 refine ⟨?_, fun k hk => ?_⟩
 ·have h1 : ((m ++ r).map (·.num)).Nodup := by
   rw [(hp.map (·.num)).nodup_iff]
   refine List.Nodup.sublist ((List.filter_sublist).map _) ?_
   rw [hnums]
   exact hh.lnd
  rw [hq.nodup_iff]
  rw [List.map_append] at h1
  exact (List.nodup_append.1 h1).1
 ·obtain ⟨x, hx, rfl⟩ := List.mem_map.1 (hq.mem_iff.1 hk)
  obtain ⟨h1, h2⟩ := List.mem_filter.1 (hsub x hx)
  obtain ⟨i, hi, rfl⟩ := List.getElem_of_mem h1
  have hl := noteQ_len hm.len
  have hiL : i < S.learnt.length := by omega
  have e := noteQ_at hm.len hiL
  rw [List.getD_eq_getElem?_getD, List.getElem?_eq_getElem hi, Option.getD_some] at e
  refine ⟨S.learnt[i], List.getElem_mem _, by rw [e], fun l hl2 hw => ?_⟩
  have hms := hm.at_ i hiL
  rw [e] at h2 hl2 hw
  unfold staysN at h2
  simp only [Bool.not_eq_true', Bool.or_eq_false_iff] at h2
  have hmi : ms.getD i false = ms[i]'(by rw [hm.len]; exact hiL) := by rw [List.getD_eq_getElem?_getD, List.getElem?_eq_getElem (by rw [hm.len]; exact hiL)]; rfl
  rw [hmi, h2.1.1] at hms
  have h3 := (List.any_eq_false.1 hms.symm) l hl2
  simp at h3
  exact h3 hw
theorem Gone.prefix_ {S : St} {gone : List Int} (h : Gone S gone) (j : Nat) : Gone S (gone.take j) :=
 ⟨h.nd.sublist (List.take_sublist _ _), fun k hk => h.sub k (List.mem_of_mem_take hk)⟩
theorem dropAll_clause {n : Nat} {O : List (List Int)} {S : St} (hh : Holds n O S) {gone : List Int} (hg : Gone S gone) {j : Nat} (hj : j < gone.length) :
  ∃ k : Nat, gone.getD j 0 = (k : Int) ∧ S.T.live k ∧ (dropAll S.T (gone.take j)).live k ∧ (dropAll S.T (gone.take j)).clauseL k = S.T.clauseL k ∧ Inv (dropAll S.T (gone.take j)) := by
 have h1 : Holds n O (S.forget (gone.take j)) := hh.forget _ (hg.prefix_ j)
 have hgj : gone.getD j 0 = gone[j] := by rw [List.getD_eq_getElem?_getD, List.getElem?_eq_getElem hj]; rfl
 obtain ⟨x, hx, hxn, hr⟩ := hg.sub gone[j] (List.getElem_mem _)
 obtain ⟨k, hk, hlive⟩ := hh.lnum x hx
 have hnot : gone[j] ∉ gone.take j := fun hm => by
  obtain ⟨i, hi, e⟩ := List.getElem_of_mem hm
  rw [List.length_take] at hi
  rw [List.getElem_take] at e
  exact List.pairwise_iff_getElem.1 hg.nd i j (by omega) hj (by omega) e
 have hx2 : x ∈ (S.forget (gone.take j)).learnt := by
  show x ∈ S.learnt.filter fun x => !(gone.take j).contains x.num
  rw [List.mem_filter]
  refine ⟨hx, ?_⟩
  rw [hxn]
  simp [hnot]
 obtain ⟨k2, hk2, hlive2⟩ := h1.lnum x hx2
 obtain rfl : k2 = k := by
  have : (k2 : Int) = (k : Int) := by rw [← hk2, hk]
  omega
 have hlive2' : (dropAll S.T (gone.take j)).live k2 := hlive2
 refine ⟨k2, by rw [hgj, ← hxn, hk], hlive, hlive2', ?_, h1.inv⟩
 rw [clauseL_live hlive2', clauseL_live hlive]
 have := (dropAll_same (gone.take j) S.T).2.2
 unfold Trail.cl
 rw [this]
theorem dropAll_val (T : Trail) (gs : List Int) (x : Int) : (dropAll T gs).val x = T.val x := by
 unfold Trail.val Trail.lits
 rw [(dropAll_same gs T).2.1]
theorem noteQ_filter (p : Int → Bool) : ∀ (L : List Note) (ms : List Bool), ms.length = L.length → ∃ ms' : List Bool, ms'.length = (L.filter fun x => p x.num).length ∧ (noteQ L ms).filter (fun x => p x.num) = noteQ (L.filter fun x => p x.num) ms'
 | [], ms, h => ⟨[], rfl, rfl⟩
 | x :: L, [], h => by simp at h
 | x :: L, m :: ms, h => by
  obtain ⟨ms', h1, h2⟩ := noteQ_filter p L ms (by simpa using h)
  have e : noteQ (x :: L) (m :: ms) = ⟨x.num, x.size, x.levels, m⟩ :: noteQ L ms := rfl
  rw [e, List.filter_cons, List.filter_cons]
  cases hp : p x.num with
  | true =>
   refine ⟨m :: ms', by simp [h1], ?_⟩
   simp only [if_true, h2]
   rfl
  | false =>
   refine ⟨ms', by simpa using h1, ?_⟩
   simpa using h2
end Sv
end Go.Proofs.YtjedgdamommgeaaGreat

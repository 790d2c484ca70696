/- The clauses that are there; what the document's closing tells. Plain Lean. -/
import Derived.Test.YtjedgdamommgeaaLrnP3
import Derived.Test.YtjedgdamommgeaaUpA
set_option linter.unusedVariables false
namespace Go.Proofs.Ytjedgdamommgeaa
open Go.RowKit
open Tr

namespace Tr
open Cnf Up

/-- the clauses that are there, but the empty ones -/
def Trail.liveTo (T : Trail) (k : Nat) : List (List Int) := (List.range k).flatMap fun (i : Nat) => match T.clauseL (i : Int) with
  | some c => if 0 < c.length then [c] else []
  | none => []
theorem liveTo_succ (T : Trail) (k : Nat) : T.liveTo (k + 1) = T.liveTo k ++ (match T.clauseL (k : Int) with
  | some c => if 0 < c.length then [c] else []
  | none => []) := by
  unfold Trail.liveTo; rw [List.range_succ, List.flatMap_append]; simp
theorem liveTo_len (T : Trail) : ∀ k, (T.liveTo k).length ≤ k
  | 0 => by simp [Trail.liveTo]
  | k + 1 => by
    rw [liveTo_succ, List.length_append]
    have := liveTo_len T k
    split
    · split <;> simp <;> omega
    · simp; omega

theorem mem_liveTo {T : Trail} {d : List Int} : ∀ {k : Nat}, d ∈ T.liveTo k ↔ ∃ i, i < k ∧ T.clauseL (i : Int) = some d ∧ 0 < d.length
  | 0 => by simp [Trail.liveTo]
  | k + 1 => by
    rw [liveTo_succ, List.mem_append, mem_liveTo]
    constructor
    · rintro (⟨i, h1, h2, h3⟩ | h)
      · exact ⟨i, by omega, h2, h3⟩
      · split at h
        · rename_i c hc
          split at h
          · rename_i h0
            simp at h; subst h
            exact ⟨k, by omega, hc, h0⟩
          · cases h
        · cases h
    · rintro ⟨i, h1, h2, h3⟩
      by_cases e : i = k
      · subst e
        right
        rw [h2]
        simp [h3]
      · exact .inl ⟨i, by omega, h2, h3⟩

theorem formL_perm {n : Nat} {c : List Int} (hn : n ≤ 65536) (h : Up.Good n c) : (formL c).Perm c := by
  have h1 : (formL c).Nodup := by
    have hs := formL_strict c
    unfold Strict at hs
    refine hs.imp fun {x y} hxy e => ?_
    subst e
    rw [lt_iff] at hxy
    omega
  have h2 : c.Nodup := (List.pairwise_map.1 h.nod).imp fun hx e => hx (by rw [e])
  exact (List.perm_ext_iff_of_nodup h1 h2).2 fun x => mem_formL c x

theorem clauseL_some {T : Trail} {i : Nat} {d : List Int} (h : T.clauseL (i : Int) = some d) : T.live i ∧ d = formL (T.cl i) := by
  unfold Trail.clauseL at h
  split at h
  · rename_i ht
    exact ⟨there_iff.1 ht, by simpa using (Option.some.inj h).symm⟩
  · cases h
theorem clauseL_live {T : Trail} {i : Nat} (h : T.live i) : T.clauseL (i : Int) = some (formL (T.cl i)) := by
  unfold Trail.clauseL
  rw [there_iff.2 h]; simp

theorem live_among {T : Trail} (o : Ok T) : T.among (T.liveTo T.cls.length) := fun k hk hne => by
  have hg : Up.Good T.n (T.cl k) := o.cls _ (getD_mem' [] hk.1 : T.cl k ∈ T.cls)
  have hp := formL_perm o.n hg
  refine ⟨formL (T.cl k), mem_liveTo.2 ⟨k, hk.1, clauseL_live hk, ?_⟩, hp.symm⟩
  rw [hp.length_eq]
  exact List.length_pos_iff.2 hne

theorem live_cls {T : Trail} (o : Ok T) {d : List Int} (hd : d ∈ T.liveTo T.cls.length) : Up.Good T.n d ∧ ∃ i, T.live i ∧ d = formL (T.cl i) := by
  obtain ⟨i, h1, h2, _⟩ := mem_liveTo.1 hd
  obtain ⟨h3, h4⟩ := clauseL_some h2
  have hg : Up.Good T.n (T.cl i) := o.cls _ (getD_mem' [] h3.1 : T.cl i ∈ T.cls)
  exact ⟨by rw [h4]; exact good_perm hg (formL_perm o.n hg), i, h3, h4⟩

theorem good_cls {n : Nat} {c : List Int} (h : Up.Good n c) : Up.Cls n c := ⟨h.lit, (List.pairwise_map.1 h.nod).imp fun hx e => hx (by rw [e])⟩

theorem fine_mem {T S c d : List Int} (h : ∀ x, x ∈ c ↔ x ∈ d) (hf : Up.Fine T S c) : Up.Fine T S d := by
  rcases hf with ⟨y, h1, h2⟩ | ⟨y, h1, z, h2, h3⟩
  · exact .inl ⟨y, (h y).1 h1, h2⟩
  · exact .inr ⟨y, (h y).1 h1, z, (h z).1 h2, h3⟩

/-- what the document's closing has, where it meets no conflict -/
theorem allR_der {n : Nat} {l : List Int} {cs : List (List Int)} (hC : ∀ c ∈ cs, Up.Cls n c) : ∀ (m : Nat) (S : List Int), Up.Good n S → (∀ x ∈ l, x ∈ S) → (∀ x ∈ S, Up.Der l cs x) → n < m + S.length → (allR cs m S).2 = false →
    Up.Good n (allR cs m S).1 ∧ ∀ x, Up.Der l cs x → x ∈ (allR cs m S).1
  | 0, S, hS, _, _, hm, _ => by have := hS.len; omega
  | m + 1, S, hS, hl, hd, hm, hr => by
    obtain ⟨w1, w2, w3⟩ := Up.pass_went (l := l) (D := cs) cs S hS hd (fun _ h => h) hC
    unfold allR andThen at hr ⊢
    cases hp : (pass cs S).2
    · rw [hp] at hr
      simp only [Bool.false_eq_true, if_false] at hr ⊢
      by_cases he : (pass cs S).1.length = S.length
      · have hS' : (pass cs S).1 = S := by
          obtain ⟨r, hr⟩ := w1.pre
          rw [hr] at he ⊢
          simp at he
          rw [he]; simp
        have hF : ∀ c ∈ cs, Up.Fine S S c := fun c hc => by have := w3 hp c hc; rwa [hS'] at this
        have hst : ∀ k, allR cs k S = (S, false) := by
          intro k
          induction k with
          | zero => rfl
          | succ k ih =>
            unfold allR andThen
            rw [hp, hS']
            simpa using ih
        rw [hS', hst]
        exact ⟨hS, fun x hx => der_in hS hl hF hx⟩
      · have := Up.went_len w1
        exact allR_der hC m _ w1.good (fun x hx => w1.sub x (hl x hx)) w1.der (by omega) hr
    · rw [hp] at hr
      simp at hr
end Tr
end Go.Proofs.Ytjedgdamommgeaa

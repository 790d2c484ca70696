/- Following, computed; the chapter's example. Plain Lean. -/
import Derived.Test.YtjbfgafkjejdjaaPropP7
namespace Go.Proofs.Ytjbfgafkjejdjaa
namespace Tr
open Cnf

def Trail.follF : Nat → Trail → Option (Trail × Int)
  | 0, _ => none
  | n + 1, T =>
    if T.next < T.ents.length then
      let p := T.visit (-(T.lits.getD T.next 0)) (T.wt (place (-(T.lits.getD T.next 0)))) []
      if 0 ≤ p.2 then some p else follF n { p.1 with next := p.1.next + 1 }
    else match T.short with
      | [] => some (T, -1)
      | k :: s =>
        if T.there k then
          (let p := T.first k
           if p.2 then follF n { p.1 with short := s } else some (p.1, k))
        else follF n { T with short := s }

theorem follF_eq {T T' : Trail} {r : Int} (h : Foll T T' r) : ∀ (n : Nat) (p : Trail × Int), T.follF n = some p → p = (T', r) := by
  induction h with
  | done hs hn =>
    intro n p hp
    match n, hp with
    | n + 1, hp =>
      unfold Trail.follF at hp
      rw [if_neg (by omega), hs] at hp
      exact (Option.some.inj hp).symm
  | conf hn hv hk =>
    intro n p hp
    match n, hp with
    | n + 1, hp =>
      unfold Trail.follF at hp
      rw [if_pos hn, hv] at hp
      simp only [if_pos hk] at hp
      exact (Option.some.inj hp).symm
  | @step T T' T2 k r hn hv hk _ ih =>
    intro n p hp
    match n, hp with
    | n + 1, hp =>
      unfold Trail.follF at hp
      rw [if_pos hn, hv] at hp
      simp only [if_neg (show ¬ (0 : Int) ≤ k by omega)] at hp
      exact ih n p hp
  | skip hn hs ht _ ih =>
    intro n p hp
    match n, hp with
    | n + 1, hp =>
      unfold Trail.follF at hp
      rw [if_neg (by omega), hs] at hp
      simp only [ht] at hp
      exact ih n p hp
  | bad hn hs ht hf =>
    intro n p hp
    match n, hp with
    | n + 1, hp =>
      unfold Trail.follF at hp
      rw [if_neg (by omega), hs] at hp
      simp only [ht, hf] at hp
      simpa using hp.symm
  | look hn hs ht hf _ ih =>
    intro n p hp
    match n, hp with
    | n + 1, hp =>
      unfold Trail.follF at hp
      rw [if_neg (by omega), hs] at hp
      simp only [ht, hf] at hp
      exact ih n p hp

def ex18 : Trail := (((Tr.new 3).add [-1, 2]).add [-2, 3]).dec 1
theorem ex18_foll : ∃ p, ex18.follF 12 = some p ∧ p.2 = -1 ∧ p.1.lits = [1, 2, 3] := ⟨_, rfl, by decide, by decide⟩

end Tr
end Go.Proofs.Ytjbfgafkjejdjaa

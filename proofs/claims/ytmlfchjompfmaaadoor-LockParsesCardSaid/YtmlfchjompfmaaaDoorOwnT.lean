/- Rows of other types lie in other blocks. -/
import Derived.Test.YtmlfchjompfmaaaDoorBase
set_option linter.unusedVariables false
namespace Go.Proofs.YtmlfchjompfmaaaDoor
open Go.RowKit
theorem own_ty {w : World} {e e' : TypeId} {s s' n n' : Nat} {v v' : Value} {xs xs' : List Value} (hne : e ≠ e') (h : w.ownsRow 0 e s v n xs) (h' : w.ownsRow 0 e' s' v' n' xs') {k : Nat} (hk : v.ownBlock = some k) : v'.ownBlock ≠ some k := by
 intro h2
 rcases h.2 with ⟨rfl, _⟩ | ⟨g, cap, cur, rfl, -, hg, -⟩
 ·cases hk
 ·rcases h'.2 with ⟨rfl, _⟩ | ⟨g', cap', cur', rfl, -, hg', -⟩
  ·cases h2
  ·simp only [Value.ownBlock, Option.some.injEq] at hk h2
   subst hk
   subst h2
   rw [hg] at hg'
   simp only [Option.some.injEq, Obj.cells.injEq] at hg'
   exact hne hg'.2.1
theorem own_blk {w : World} {e t : TypeId} {s n b : Nat} {v : Value} {xs : List Value} {c : Array Value} {f : Nat × Nat} (hne : e ≠ t) (h : w.ownsRow 0 e s v n xs) (hb : w.heap[b]? = some (.cells c t f)) : v.ownBlock ≠ some b := by
 intro h2
 rcases h.2 with ⟨rfl, _⟩ | ⟨g, cap, cur, rfl, -, hg, -⟩
 ·cases h2
 ·simp only [Value.ownBlock, Option.some.injEq] at h2
  subst h2
  rw [hb] at hg
  simp only [Option.some.injEq, Obj.cells.injEq] at hg
  exact hne hg.2.1.symm
end Go.Proofs.YtmlfchjompfmaaaDoor

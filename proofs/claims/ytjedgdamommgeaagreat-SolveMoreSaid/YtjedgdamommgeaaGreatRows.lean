/-
  No cell of these rows narrows 'for every input' (looked for: loops, veiled, ifaces, maps, wideKeys, modest, calm, conditions, laid).
  DERIVED. THE GIVEN ROWS OF THIS SEAT. 6 by the template 'for every input the law returns true; each argument reads behind the call as it read before'; 0 by the template 'total and deterministic' (their statements: YtjedgdamommgeaaGreatTotals.lean).
  GIVEN WITH THE SEED: the statements are not yours to turn. If you find one false, say at which input.
  Laid BY PROGRAM, IN A SANDBOX (cutbox-rows.mjs): the forced cells as the released guide's own fill.sh prints them over the translation 3739a30335c84de0… (all of the seat's roots in one cut). By AI agents, Wed Nov 11 2026. No macro, syntax, notation, axiom, sorry.
-/
import Derived.Test.YtjedgdamommgeaaGreatChecked
import GoSem.Claim
import GoSem.ClaimJoined
import GoSem.ClaimMapViews
import Derived.JoinedTies
import Derived.KernelRfl
namespace Go.Proofs.YtjedgdamommgeaaGreat
/- THE CELL 'sum', in the pinned program and in every row, IS THE sha256 OF THE DUMP (.gsa) THAT YtjedgdamommgeaaGreatProg.lean LOADS. Nothing in Lean hashes anything: it is a label: what it is worth is what the hold of that sum in a sandbox is worth. -/
noncomputable def Tryz.pinned : Pinned := { name := "ytjedgdamommgeaagreat", sum := "3739a30335c84de02156da7e46f2429575fa80f1a93031407460891d0e9bcbb6", checked := Tryz.checked }
namespace Rows
def none {H : Type} : Left H := { results := [], args := [] }

/-- 'cooperlaw21.SolveMore': WHATEVER THE INPUT: true; the input reads as it did. -/
def solveMoreSpec : ChangeSpec := { name := "solveMore", fn := fun _ => fun
  | [d1, d2, d3, d4] => { results := [.lit (.bool true)], args := [d1, d2, d3, d4] }
  | _ => none }
def solveMoreRow : OpenClaim := { program := "ytjedgdamommgeaagreat", sum := "3739a30335c84de02156da7e46f2429575fa80f1a93031407460891d0e9bcbb6", func := "cooper/cooperlaw21.SolveMore", spec := "solveMore", unfollowed := true, recurses := true, plainKeys := false, apart := false }
def SolveMoreSaid : Prop := solveMoreRow.holds Tryz.pinned (OpenSpec.ofChange solveMoreSpec)

/-- ITS FALSE NEIGHBOUR: 'it returns false'. Refute it at one input. -/
def solveMoreWrong : ChangeSpec := { name := "solveMore", fn := fun _ => fun
  | [d1, d2, d3, d4] => { results := [.lit (.bool false)], args := [d1, d2, d3, d4] }
  | _ => none }
def SolveMoreWrongFalsely : Prop := solveMoreRow.holds Tryz.pinned (OpenSpec.ofChange solveMoreWrong)

/-- 'cooperlaw21.SolveNil': WHATEVER THE INPUT: true; the input reads as it did. -/
def solveNilSpec : ChangeSpec := { name := "solveNil", fn := fun _ => fun
  | [d1, d2] => { results := [.lit (.bool true)], args := [d1, d2] }
  | _ => none }
def solveNilRow : OpenClaim := { program := "ytjedgdamommgeaagreat", sum := "3739a30335c84de02156da7e46f2429575fa80f1a93031407460891d0e9bcbb6", func := "cooper/cooperlaw21.SolveNil", spec := "solveNil", unfollowed := true, recurses := true, plainKeys := false, apart := false }
def SolveNilSaid : Prop := solveNilRow.holds Tryz.pinned (OpenSpec.ofChange solveNilSpec)

/-- ITS FALSE NEIGHBOUR: 'it returns false'. Refute it at one input. -/
def solveNilWrong : ChangeSpec := { name := "solveNil", fn := fun _ => fun
  | [d1, d2] => { results := [.lit (.bool false)], args := [d1, d2] }
  | _ => none }
def SolveNilWrongFalsely : Prop := solveNilRow.holds Tryz.pinned (OpenSpec.ofChange solveNilWrong)

/-- 'cooperlaw23.TotalLess': WHATEVER THE INPUT: true; the input reads as it did. -/
def totalLessSpec : ChangeSpec := { name := "totalLess", fn := fun _ => fun
  | [d1, d2] => { results := [.lit (.bool true)], args := [d1, d2] }
  | _ => none }
def totalLessRow : OpenClaim := { program := "ytjedgdamommgeaagreat", sum := "3739a30335c84de02156da7e46f2429575fa80f1a93031407460891d0e9bcbb6", func := "cooper/cooperlaw23.TotalLess", spec := "totalLess", unfollowed := true, recurses := true, plainKeys := false, apart := false }
def TotalLessSaid : Prop := totalLessRow.holds Tryz.pinned (OpenSpec.ofChange totalLessSpec)

/-- ITS FALSE NEIGHBOUR: 'it returns false'. Refute it at one input. -/
def totalLessWrong : ChangeSpec := { name := "totalLess", fn := fun _ => fun
  | [d1, d2] => { results := [.lit (.bool false)], args := [d1, d2] }
  | _ => none }
def TotalLessWrongFalsely : Prop := totalLessRow.holds Tryz.pinned (OpenSpec.ofChange totalLessWrong)

/-- 'cooperlaw23.TotalTurned': WHATEVER THE INPUT: true; the input reads as it did. -/
def totalTurnedSpec : ChangeSpec := { name := "totalTurned", fn := fun _ => fun
  | [d1, d2, d3] => { results := [.lit (.bool true)], args := [d1, d2, d3] }
  | _ => none }
def totalTurnedRow : OpenClaim := { program := "ytjedgdamommgeaagreat", sum := "3739a30335c84de02156da7e46f2429575fa80f1a93031407460891d0e9bcbb6", func := "cooper/cooperlaw23.TotalTurned", spec := "totalTurned", unfollowed := true, recurses := true, plainKeys := false, apart := false }
def TotalTurnedSaid : Prop := totalTurnedRow.holds Tryz.pinned (OpenSpec.ofChange totalTurnedSpec)

/-- ITS FALSE NEIGHBOUR: 'it returns false'. Refute it at one input. -/
def totalTurnedWrong : ChangeSpec := { name := "totalTurned", fn := fun _ => fun
  | [d1, d2, d3] => { results := [.lit (.bool false)], args := [d1, d2, d3] }
  | _ => none }
def TotalTurnedWrongFalsely : Prop := totalTurnedRow.holds Tryz.pinned (OpenSpec.ofChange totalTurnedWrong)

/-- 'cooperlaw23.TotalCounts': WHATEVER THE INPUT: true; the input reads as it did. -/
def totalCountsSpec : ChangeSpec := { name := "totalCounts", fn := fun _ => fun
  | [d1, d2, d3, d4, d5] => { results := [.lit (.bool true)], args := [d1, d2, d3, d4, d5] }
  | _ => none }
def totalCountsRow : OpenClaim := { program := "ytjedgdamommgeaagreat", sum := "3739a30335c84de02156da7e46f2429575fa80f1a93031407460891d0e9bcbb6", func := "cooper/cooperlaw23.TotalCounts", spec := "totalCounts", unfollowed := true, recurses := true, plainKeys := false, apart := false }
def TotalCountsSaid : Prop := totalCountsRow.holds Tryz.pinned (OpenSpec.ofChange totalCountsSpec)

/-- ITS FALSE NEIGHBOUR: 'it returns false'. Refute it at one input. -/
def totalCountsWrong : ChangeSpec := { name := "totalCounts", fn := fun _ => fun
  | [d1, d2, d3, d4, d5] => { results := [.lit (.bool false)], args := [d1, d2, d3, d4, d5] }
  | _ => none }
def TotalCountsWrongFalsely : Prop := totalCountsRow.holds Tryz.pinned (OpenSpec.ofChange totalCountsWrong)

/-- 'cooperlaw22.RupSolves': WHATEVER THE INPUT: true; the input reads as it did. -/
def rupSolvesSpec : ChangeSpec := { name := "rupSolves", fn := fun _ => fun
  | [d1, d2, d3] => { results := [.lit (.bool true)], args := [d1, d2, d3] }
  | _ => none }
def rupSolvesRow : OpenClaim := { program := "ytjedgdamommgeaagreat", sum := "3739a30335c84de02156da7e46f2429575fa80f1a93031407460891d0e9bcbb6", func := "cooper/cooperlaw22.RupSolves", spec := "rupSolves", unfollowed := true, recurses := true, plainKeys := false, apart := false }
def RupSolvesSaid : Prop := rupSolvesRow.holds Tryz.pinned (OpenSpec.ofChange rupSolvesSpec)

/-- ITS FALSE NEIGHBOUR: 'it returns false'. Refute it at one input. -/
def rupSolvesWrong : ChangeSpec := { name := "rupSolves", fn := fun _ => fun
  | [d1, d2, d3] => { results := [.lit (.bool false)], args := [d1, d2, d3] }
  | _ => none }
def RupSolvesWrongFalsely : Prop := rupSolvesRow.holds Tryz.pinned (OpenSpec.ofChange rupSolvesWrong)

/- THE SECOND FORM. 'bulk': how many values and letters a reading holds, each counted each time it is reached (what is shared counts as often as it is met; a slice's spare places count too). A statement '..UptoSaid' is the law's where the arguments, and the package variables that the reading takes, are together of bulk at most 1048576: NARROWER than '..Said'. Prove '..Said' where nothing that the law and all that it calls make is longer than what came in: it says more and counts as full. Else prove '..UptoSaid'. A law counts once. -/
mutual
def uptoBulk {H : Type} : DataW H → Nat
  | .lit (.string bytes) => bytes.length + 1
  | .lit _ => 1
  | .nil => 1
  | .ptr d => uptoBulk d + 1
  | .slice elems spare => uptoBulkAll elems + uptoBulkAll spare + 1
  | .agg parts => uptoBulkAll parts + 1
  | .iface _ d => uptoBulk d + 1
  | .map entries => uptoBulkEntries entries + 1
  | .held _ => 1
def uptoBulkAll {H : Type} : List (DataW H) → Nat
  | [] => 0
  | d :: r => uptoBulk d + uptoBulkAll r
def uptoBulkEntries {H : Type} : List (Lit × DataW H) → Nat
  | [] => 0
  | x :: r => uptoBulkEntry x + uptoBulkEntries r
def uptoBulkEntry {H : Type} : Lit × DataW H → Nat
  | (.string bytes, d) => bytes.length + uptoBulk d + 1
  | (_, d) => uptoBulk d + 1
 end
def uptoSmall : (H : Type) → List (DataW H) → Bool := fun _ ds => decide (uptoBulkAll ds ≤ 1048576)
def OpenSpec.upto (s : _root_.Go.ChangeSpec) : _root_.Go.OpenSpec := { _root_.Go.OpenSpec.ofChange s with cond := some uptoSmall }

/-- 'cooperlaw21.SolveMore', WHERE WHAT IT READS IS OF BULK AT MOST 1048576: true; the input reads as it did. -/
def solveMoreUptoRow : OpenClaim := { program := "ytjedgdamommgeaagreat", sum := "3739a30335c84de02156da7e46f2429575fa80f1a93031407460891d0e9bcbb6", func := "cooper/cooperlaw21.SolveMore", spec := "solveMore", unfollowed := true, recurses := true, plainKeys := false, apart := false, narrowed := true }
def SolveMoreUptoSaid : Prop := solveMoreUptoRow.holds Tryz.pinned (OpenSpec.upto solveMoreSpec)

/-- 'cooperlaw21.SolveNil', WHERE WHAT IT READS IS OF BULK AT MOST 1048576: true; the input reads as it did. -/
def solveNilUptoRow : OpenClaim := { program := "ytjedgdamommgeaagreat", sum := "3739a30335c84de02156da7e46f2429575fa80f1a93031407460891d0e9bcbb6", func := "cooper/cooperlaw21.SolveNil", spec := "solveNil", unfollowed := true, recurses := true, plainKeys := false, apart := false, narrowed := true }
def SolveNilUptoSaid : Prop := solveNilUptoRow.holds Tryz.pinned (OpenSpec.upto solveNilSpec)

/-- 'cooperlaw23.TotalLess', WHERE WHAT IT READS IS OF BULK AT MOST 1048576: true; the input reads as it did. -/
def totalLessUptoRow : OpenClaim := { program := "ytjedgdamommgeaagreat", sum := "3739a30335c84de02156da7e46f2429575fa80f1a93031407460891d0e9bcbb6", func := "cooper/cooperlaw23.TotalLess", spec := "totalLess", unfollowed := true, recurses := true, plainKeys := false, apart := false, narrowed := true }
def TotalLessUptoSaid : Prop := totalLessUptoRow.holds Tryz.pinned (OpenSpec.upto totalLessSpec)

/-- 'cooperlaw23.TotalTurned', WHERE WHAT IT READS IS OF BULK AT MOST 1048576: true; the input reads as it did. -/
def totalTurnedUptoRow : OpenClaim := { program := "ytjedgdamommgeaagreat", sum := "3739a30335c84de02156da7e46f2429575fa80f1a93031407460891d0e9bcbb6", func := "cooper/cooperlaw23.TotalTurned", spec := "totalTurned", unfollowed := true, recurses := true, plainKeys := false, apart := false, narrowed := true }
def TotalTurnedUptoSaid : Prop := totalTurnedUptoRow.holds Tryz.pinned (OpenSpec.upto totalTurnedSpec)

/-- 'cooperlaw23.TotalCounts', WHERE WHAT IT READS IS OF BULK AT MOST 1048576: true; the input reads as it did. -/
def totalCountsUptoRow : OpenClaim := { program := "ytjedgdamommgeaagreat", sum := "3739a30335c84de02156da7e46f2429575fa80f1a93031407460891d0e9bcbb6", func := "cooper/cooperlaw23.TotalCounts", spec := "totalCounts", unfollowed := true, recurses := true, plainKeys := false, apart := false, narrowed := true }
def TotalCountsUptoSaid : Prop := totalCountsUptoRow.holds Tryz.pinned (OpenSpec.upto totalCountsSpec)

/-- 'cooperlaw22.RupSolves', WHERE WHAT IT READS IS OF BULK AT MOST 1048576: true; the input reads as it did. -/
def rupSolvesUptoRow : OpenClaim := { program := "ytjedgdamommgeaagreat", sum := "3739a30335c84de02156da7e46f2429575fa80f1a93031407460891d0e9bcbb6", func := "cooper/cooperlaw22.RupSolves", spec := "rupSolves", unfollowed := true, recurses := true, plainKeys := false, apart := false, narrowed := true }
def RupSolvesUptoSaid : Prop := rupSolvesUptoRow.holds Tryz.pinned (OpenSpec.upto rupSolvesSpec)

end Rows
end Go.Proofs.YtjedgdamommgeaaGreat

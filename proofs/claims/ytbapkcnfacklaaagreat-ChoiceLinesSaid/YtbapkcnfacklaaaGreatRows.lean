/-
  No cell of these rows narrows 'for every input' (looked for: loops, veiled, ifaces, maps, wideKeys, modest, calm, conditions, laid).
  DERIVED. THE GIVEN ROWS OF THIS SEAT. 4 by the template 'for every input the law returns true; each argument reads behind the call as it read before'; 0 by the template 'total and deterministic' (their statements: YtbapkcnfacklaaaGreatTotals.lean).
  GIVEN WITH THE SEED: the statements are not yours to turn. If you find one false, say at which input.
  Laid BY PROGRAM, IN A SANDBOX (cutbox-rows.mjs): the forced cells as the released guide's own fill.sh prints them over the translation 10026e5491f3d0b7… (all of the seat's roots in one cut). By AI agents, Wed Nov 11 2026. No macro, syntax, notation, axiom, sorry.
-/
import Derived.Test.YtbapkcnfacklaaaGreatChecked
import GoSem.Claim
import GoSem.ClaimJoined
import GoSem.ClaimMapViews
import Derived.JoinedTies
import Derived.KernelRfl
namespace Go.Proofs.YtbapkcnfacklaaaGreat
/- THE CELL 'sum', in the pinned program and in every row, IS THE sha256 OF THE DUMP (.gsa) THAT YtbapkcnfacklaaaGreatProg.lean LOADS. Nothing in Lean hashes anything: it is a label: what it is worth is what the hold of that sum in a sandbox is worth. -/
noncomputable def Tryz.pinned : Pinned := { name := "ytbapkcnfacklaaagreat", sum := "10026e5491f3d0b7e7a301101c8f80bd0a275450f85d31fadd18622569189a5b", checked := Tryz.checked }
namespace Rows
def none {H : Type} : Left H := { results := [], args := [] }

/-- 'cooperlaw13.ChoiceLines': WHATEVER THE INPUT: true; the input reads as it did. -/
def choiceLinesSpec : ChangeSpec := { name := "choiceLines", fn := fun _ => fun
  | [d1, d2] => { results := [.lit (.bool true)], args := [d1, d2] }
  | _ => none }
def choiceLinesRow : OpenClaim := { program := "ytbapkcnfacklaaagreat", sum := "10026e5491f3d0b7e7a301101c8f80bd0a275450f85d31fadd18622569189a5b", func := "cooper/cooperlaw13.ChoiceLines", spec := "choiceLines", unfollowed := true, recurses := true, plainKeys := false, apart := false }
def ChoiceLinesSaid : Prop := choiceLinesRow.holds Tryz.pinned (OpenSpec.ofChange choiceLinesSpec)

/-- ITS FALSE NEIGHBOUR: 'it returns false'. Refute it at one input. -/
def choiceLinesWrong : ChangeSpec := { name := "choiceLines", fn := fun _ => fun
  | [d1, d2] => { results := [.lit (.bool false)], args := [d1, d2] }
  | _ => none }
def ChoiceLinesWrongFalsely : Prop := choiceLinesRow.holds Tryz.pinned (OpenSpec.ofChange choiceLinesWrong)

/-- 'cooperlaw13.ChoiceHolds': WHATEVER THE INPUT: true; the input reads as it did. -/
def choiceHoldsSpec : ChangeSpec := { name := "choiceHolds", fn := fun _ => fun
  | [d1, d2, d3, d4] => { results := [.lit (.bool true)], args := [d1, d2, d3, d4] }
  | _ => none }
def choiceHoldsRow : OpenClaim := { program := "ytbapkcnfacklaaagreat", sum := "10026e5491f3d0b7e7a301101c8f80bd0a275450f85d31fadd18622569189a5b", func := "cooper/cooperlaw13.ChoiceHolds", spec := "choiceHolds", unfollowed := true, recurses := true, plainKeys := false, apart := false }
def ChoiceHoldsSaid : Prop := choiceHoldsRow.holds Tryz.pinned (OpenSpec.ofChange choiceHoldsSpec)

/-- ITS FALSE NEIGHBOUR: 'it returns false'. Refute it at one input. -/
def choiceHoldsWrong : ChangeSpec := { name := "choiceHolds", fn := fun _ => fun
  | [d1, d2, d3, d4] => { results := [.lit (.bool false)], args := [d1, d2, d3, d4] }
  | _ => none }
def ChoiceHoldsWrongFalsely : Prop := choiceHoldsRow.holds Tryz.pinned (OpenSpec.ofChange choiceHoldsWrong)

/-- 'cooperlaw13.ChoiceLimit': WHATEVER THE INPUT: true; the input reads as it did. -/
def choiceLimitSpec : ChangeSpec := { name := "choiceLimit", fn := fun _ => fun
  | [d1, d2, d3, d4] => { results := [.lit (.bool true)], args := [d1, d2, d3, d4] }
  | _ => none }
def choiceLimitRow : OpenClaim := { program := "ytbapkcnfacklaaagreat", sum := "10026e5491f3d0b7e7a301101c8f80bd0a275450f85d31fadd18622569189a5b", func := "cooper/cooperlaw13.ChoiceLimit", spec := "choiceLimit", unfollowed := true, recurses := true, plainKeys := false, apart := false }
def ChoiceLimitSaid : Prop := choiceLimitRow.holds Tryz.pinned (OpenSpec.ofChange choiceLimitSpec)

/-- ITS FALSE NEIGHBOUR: 'it returns false'. Refute it at one input. -/
def choiceLimitWrong : ChangeSpec := { name := "choiceLimit", fn := fun _ => fun
  | [d1, d2, d3, d4] => { results := [.lit (.bool false)], args := [d1, d2, d3, d4] }
  | _ => none }
def ChoiceLimitWrongFalsely : Prop := choiceLimitRow.holds Tryz.pinned (OpenSpec.ofChange choiceLimitWrong)

/-- 'cooperlaw13.ChoiceRules': WHATEVER THE INPUT: true; the input reads as it did. -/
def choiceRulesSpec : ChangeSpec := { name := "choiceRules", fn := fun _ => fun
  | [d1, d2] => { results := [.lit (.bool true)], args := [d1, d2] }
  | _ => none }
def choiceRulesRow : OpenClaim := { program := "ytbapkcnfacklaaagreat", sum := "10026e5491f3d0b7e7a301101c8f80bd0a275450f85d31fadd18622569189a5b", func := "cooper/cooperlaw13.ChoiceRules", spec := "choiceRules", unfollowed := true, recurses := true, plainKeys := false, apart := false }
def ChoiceRulesSaid : Prop := choiceRulesRow.holds Tryz.pinned (OpenSpec.ofChange choiceRulesSpec)

/-- ITS FALSE NEIGHBOUR: 'it returns false'. Refute it at one input. -/
def choiceRulesWrong : ChangeSpec := { name := "choiceRules", fn := fun _ => fun
  | [d1, d2] => { results := [.lit (.bool false)], args := [d1, d2] }
  | _ => none }
def ChoiceRulesWrongFalsely : Prop := choiceRulesRow.holds Tryz.pinned (OpenSpec.ofChange choiceRulesWrong)

/- THE SECOND FORM. 'bulk': how many values and letters a reading holds, each counted each time it is reached (what is shared counts as often as it is met; a slice's spare places count too). A statement '..UptoSaid' is the law's where the arguments, and the package variables that the reading takes, are together of bulk at most 1048576: NARROWER than '..Said'. Prove '..Said' where nothing that the law and all that it calls make is longer than what came in: it says more and counts as full. Else prove '..UptoSaid'. A law counts once. -/
mutual
def uptoBulk {H : Type} : DataW H → Nat
  | .lit (.string bytes) => bytes.length + 1
  | .lit _ => 1
  | .nil => 1
  | .ptr d => uptoBulk d + 1
  | .slice elems spare => uptoBulkAll elems + uptoBulkAll spare + 1
  | .agg parts => uptoBulkAll parts + 1
  | .iface _ d => uptoBulk d + 1
  | .map entries => uptoBulkEntries entries + 1
  | .held _ => 1
def uptoBulkAll {H : Type} : List (DataW H) → Nat
  | [] => 0
  | d :: r => uptoBulk d + uptoBulkAll r
def uptoBulkEntries {H : Type} : List (Lit × DataW H) → Nat
  | [] => 0
  | x :: r => uptoBulkEntry x + uptoBulkEntries r
def uptoBulkEntry {H : Type} : Lit × DataW H → Nat
  | (.string bytes, d) => bytes.length + uptoBulk d + 1
  | (_, d) => uptoBulk d + 1
 end
def uptoSmall : (H : Type) → List (DataW H) → Bool := fun _ ds => decide (uptoBulkAll ds ≤ 1048576)
def OpenSpec.upto (s : _root_.Go.ChangeSpec) : _root_.Go.OpenSpec := { _root_.Go.OpenSpec.ofChange s with cond := some uptoSmall }

/-- 'cooperlaw13.ChoiceLines', WHERE WHAT IT READS IS OF BULK AT MOST 1048576: true; the input reads as it did. -/
def choiceLinesUptoRow : OpenClaim := { program := "ytbapkcnfacklaaagreat", sum := "10026e5491f3d0b7e7a301101c8f80bd0a275450f85d31fadd18622569189a5b", func := "cooper/cooperlaw13.ChoiceLines", spec := "choiceLines", unfollowed := true, recurses := true, plainKeys := false, apart := false, narrowed := true }
def ChoiceLinesUptoSaid : Prop := choiceLinesUptoRow.holds Tryz.pinned (OpenSpec.upto choiceLinesSpec)

/-- 'cooperlaw13.ChoiceHolds', WHERE WHAT IT READS IS OF BULK AT MOST 1048576: true; the input reads as it did. -/
def choiceHoldsUptoRow : OpenClaim := { program := "ytbapkcnfacklaaagreat", sum := "10026e5491f3d0b7e7a301101c8f80bd0a275450f85d31fadd18622569189a5b", func := "cooper/cooperlaw13.ChoiceHolds", spec := "choiceHolds", unfollowed := true, recurses := true, plainKeys := false, apart := false, narrowed := true }
def ChoiceHoldsUptoSaid : Prop := choiceHoldsUptoRow.holds Tryz.pinned (OpenSpec.upto choiceHoldsSpec)

/-- 'cooperlaw13.ChoiceLimit', WHERE WHAT IT READS IS OF BULK AT MOST 1048576: true; the input reads as it did. -/
def choiceLimitUptoRow : OpenClaim := { program := "ytbapkcnfacklaaagreat", sum := "10026e5491f3d0b7e7a301101c8f80bd0a275450f85d31fadd18622569189a5b", func := "cooper/cooperlaw13.ChoiceLimit", spec := "choiceLimit", unfollowed := true, recurses := true, plainKeys := false, apart := false, narrowed := true }
def ChoiceLimitUptoSaid : Prop := choiceLimitUptoRow.holds Tryz.pinned (OpenSpec.upto choiceLimitSpec)

/-- 'cooperlaw13.ChoiceRules', WHERE WHAT IT READS IS OF BULK AT MOST 1048576: true; the input reads as it did. -/
def choiceRulesUptoRow : OpenClaim := { program := "ytbapkcnfacklaaagreat", sum := "10026e5491f3d0b7e7a301101c8f80bd0a275450f85d31fadd18622569189a5b", func := "cooper/cooperlaw13.ChoiceRules", spec := "choiceRules", unfollowed := true, recurses := true, plainKeys := false, apart := false, narrowed := true }
def ChoiceRulesUptoSaid : Prop := choiceRulesUptoRow.holds Tryz.pinned (OpenSpec.upto choiceRulesSpec)

end Rows
end Go.Proofs.YtbapkcnfacklaaaGreat

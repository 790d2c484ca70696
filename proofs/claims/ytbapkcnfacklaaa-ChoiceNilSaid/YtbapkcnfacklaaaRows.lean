/-
  No cell of these rows narrows 'for every input' (looked for: loops, veiled, ifaces, maps, wideKeys, modest, calm, conditions, laid).
  DERIVED. THE GIVEN ROWS OF THIS SEAT. 2 by the template 'for every input the law returns true; each argument reads behind the call as it read before'; 0 by the template 'total and deterministic' (their statements: YtbapkcnfacklaaaTotals.lean).
  GIVEN WITH THE SEED: the statements are not yours to turn. If you find one false, say at which input.
  Laid BY PROGRAM, IN A SANDBOX (cutbox-rows.mjs): the forced cells as the released guide's own fill.sh prints them over the translation 97d7dfe8d24357c0… (all of the seat's roots in one cut). By AI agents, Wed Nov 11 2026. No macro, syntax, notation, axiom, sorry.
-/
import Derived.Test.YtbapkcnfacklaaaChecked
import GoSem.Claim
import GoSem.ClaimJoined
import GoSem.ClaimMapViews
import Derived.JoinedTies
import Derived.KernelRfl
namespace Go.Proofs.Ytbapkcnfacklaaa
/- THE CELL 'sum', in the pinned program and in every row, IS THE sha256 OF THE DUMP (.gsa) THAT YtbapkcnfacklaaaProg.lean LOADS. Nothing in Lean hashes anything: it is a label: what it is worth is what the hold of that sum in a sandbox is worth. -/
noncomputable def Try.pinned : Pinned := { name := "ytbapkcnfacklaaa", sum := "97d7dfe8d24357c06000e9ef0da23fdf5ef4e087466502187aad84c7b3699b41", checked := Try.checked }
namespace Rows
def none {H : Type} : Left H := { results := [], args := [] }

/-- 'cooperlaw10.NeedsMore': WHATEVER THE INPUT: true; the input reads as it did. -/
def needsMoreSpec : ChangeSpec := { name := "needsMore", fn := fun _ => fun
  | [d1, d2, d3] => { results := [.lit (.bool true)], args := [d1, d2, d3] }
  | _ => none }
def needsMoreRow : OpenClaim := { program := "ytbapkcnfacklaaa", sum := "97d7dfe8d24357c06000e9ef0da23fdf5ef4e087466502187aad84c7b3699b41", func := "cooper/cooperlaw10.NeedsMore", spec := "needsMore", unfollowed := true, recurses := true, plainKeys := false, apart := false }
def NeedsMoreSaid : Prop := needsMoreRow.holds Try.pinned (OpenSpec.ofChange needsMoreSpec)

/-- ITS FALSE NEIGHBOUR: 'it returns false'. Refute it at one input. -/
def needsMoreWrong : ChangeSpec := { name := "needsMore", fn := fun _ => fun
  | [d1, d2, d3] => { results := [.lit (.bool false)], args := [d1, d2, d3] }
  | _ => none }
def NeedsMoreWrongFalsely : Prop := needsMoreRow.holds Try.pinned (OpenSpec.ofChange needsMoreWrong)

/-- 'cooperlaw13.ChoiceNil': WHATEVER THE INPUT: true; the input reads as it did. -/
def choiceNilSpec : ChangeSpec := { name := "choiceNil", fn := fun _ => fun
  | [d1, d2] => { results := [.lit (.bool true)], args := [d1, d2] }
  | _ => none }
def choiceNilRow : OpenClaim := { program := "ytbapkcnfacklaaa", sum := "97d7dfe8d24357c06000e9ef0da23fdf5ef4e087466502187aad84c7b3699b41", func := "cooper/cooperlaw13.ChoiceNil", spec := "choiceNil", unfollowed := true, recurses := true, plainKeys := false, apart := false }
def ChoiceNilSaid : Prop := choiceNilRow.holds Try.pinned (OpenSpec.ofChange choiceNilSpec)

/-- ITS FALSE NEIGHBOUR: 'it returns false'. Refute it at one input. -/
def choiceNilWrong : ChangeSpec := { name := "choiceNil", fn := fun _ => fun
  | [d1, d2] => { results := [.lit (.bool false)], args := [d1, d2] }
  | _ => none }
def ChoiceNilWrongFalsely : Prop := choiceNilRow.holds Try.pinned (OpenSpec.ofChange choiceNilWrong)

/- THE SECOND FORM. 'bulk': how many values and letters a reading holds, each counted each time it is reached (what is shared counts as often as it is met; a slice's spare places count too). A statement '..UptoSaid' is the law's where the arguments, and the package variables that the reading takes, are together of bulk at most 1048576: NARROWER than '..Said'. Prove '..Said' where nothing that the law and all that it calls make is longer than what came in: it says more and counts as full. Else prove '..UptoSaid'. A law counts once. -/
mutual
def uptoBulk {H : Type} : DataW H → Nat
  | .lit (.string bytes) => bytes.length + 1
  | .lit _ => 1
  | .nil => 1
  | .ptr d => uptoBulk d + 1
  | .slice elems spare => uptoBulkAll elems + uptoBulkAll spare + 1
  | .agg parts => uptoBulkAll parts + 1
  | .iface _ d => uptoBulk d + 1
  | .map entries => uptoBulkEntries entries + 1
  | .held _ => 1
def uptoBulkAll {H : Type} : List (DataW H) → Nat
  | [] => 0
  | d :: r => uptoBulk d + uptoBulkAll r
def uptoBulkEntries {H : Type} : List (Lit × DataW H) → Nat
  | [] => 0
  | x :: r => uptoBulkEntry x + uptoBulkEntries r
def uptoBulkEntry {H : Type} : Lit × DataW H → Nat
  | (.string bytes, d) => bytes.length + uptoBulk d + 1
  | (_, d) => uptoBulk d + 1
 end
def uptoSmall : (H : Type) → List (DataW H) → Bool := fun _ ds => decide (uptoBulkAll ds ≤ 1048576)
def OpenSpec.upto (s : _root_.Go.ChangeSpec) : _root_.Go.OpenSpec := { _root_.Go.OpenSpec.ofChange s with cond := some uptoSmall }

/-- 'cooperlaw10.NeedsMore', WHERE WHAT IT READS IS OF BULK AT MOST 1048576: true; the input reads as it did. -/
def needsMoreUptoRow : OpenClaim := { program := "ytbapkcnfacklaaa", sum := "97d7dfe8d24357c06000e9ef0da23fdf5ef4e087466502187aad84c7b3699b41", func := "cooper/cooperlaw10.NeedsMore", spec := "needsMore", unfollowed := true, recurses := true, plainKeys := false, apart := false, narrowed := true }
def NeedsMoreUptoSaid : Prop := needsMoreUptoRow.holds Try.pinned (OpenSpec.upto needsMoreSpec)

/-- 'cooperlaw13.ChoiceNil', WHERE WHAT IT READS IS OF BULK AT MOST 1048576: true; the input reads as it did. -/
def choiceNilUptoRow : OpenClaim := { program := "ytbapkcnfacklaaa", sum := "97d7dfe8d24357c06000e9ef0da23fdf5ef4e087466502187aad84c7b3699b41", func := "cooper/cooperlaw13.ChoiceNil", spec := "choiceNil", unfollowed := true, recurses := true, plainKeys := false, apart := false, narrowed := true }
def ChoiceNilUptoSaid : Prop := choiceNilUptoRow.holds Try.pinned (OpenSpec.upto choiceNilSpec)

end Rows
end Go.Proofs.Ytbapkcnfacklaaa

/-
  No cell of these rows narrows 'for every input' (looked for: loops, veiled, ifaces, maps, wideKeys, modest, calm, conditions, laid).
  DERIVED. THE GIVEN ROWS OF THIS SEAT. 5 by the template 'for every input the law returns true; each argument reads behind the call as it read before'; 0 by the template 'total and deterministic' (their statements: YtjedgdamommgeaaTotals.lean).
  GIVEN WITH THE SEED: the statements are not yours to turn. If you find one false, say at which input.
  Laid BY PROGRAM, IN A SANDBOX (cutbox-rows.mjs): the forced cells as the released guide's own fill.sh prints them over the translation 3696c0eb56270f1b… (all of the seat's roots in one cut). By AI agents, Wed Nov 11 2026. No macro, syntax, notation, axiom, sorry.
-/
import Derived.Test.YtjedgdamommgeaaChecked
import GoSem.Claim
import GoSem.ClaimJoined
import GoSem.ClaimMapViews
import Derived.JoinedTies
import Derived.KernelRfl
namespace Go.Proofs.Ytjedgdamommgeaa
/- THE CELL 'sum', in the pinned program and in every row, IS THE sha256 OF THE DUMP (.gsa) THAT YtjedgdamommgeaaProg.lean LOADS. Nothing in Lean hashes anything: it is a label: what it is worth is what the hold of that sum in a sandbox is worth. -/
noncomputable def Try.pinned : Pinned := { name := "ytjedgdamommgeaa", sum := "3696c0eb56270f1b663b3fc4cc07d1e9fbc6ca7178ff516958331252cfb7fd17", checked := Try.checked }
namespace Rows
def none {H : Type} : Left H := { results := [], args := [] }

/-- 'cooperlaw19.LearnSame': WHATEVER THE INPUT: true; the input reads as it did. -/
def learnSameSpec : ChangeSpec := { name := "learnSame", fn := fun _ => fun
  | [d1, d2, d3] => { results := [.lit (.bool true)], args := [d1, d2, d3] }
  | _ => none }
def learnSameRow : OpenClaim := { program := "ytjedgdamommgeaa", sum := "3696c0eb56270f1b663b3fc4cc07d1e9fbc6ca7178ff516958331252cfb7fd17", func := "cooper/cooperlaw19.LearnSame", spec := "learnSame", unfollowed := true, recurses := true, apart := false }
def LearnSameSaid : Prop := learnSameRow.holds Try.pinned (OpenSpec.ofChange learnSameSpec)

/-- ITS FALSE NEIGHBOUR: 'it returns false'. Refute it at one input. -/
def learnSameWrong : ChangeSpec := { name := "learnSame", fn := fun _ => fun
  | [d1, d2, d3] => { results := [.lit (.bool false)], args := [d1, d2, d3] }
  | _ => none }
def LearnSameWrongFalsely : Prop := learnSameRow.holds Try.pinned (OpenSpec.ofChange learnSameWrong)

/-- 'cooperlaw19.LearnLevels': WHATEVER THE INPUT: true; the input reads as it did. -/
def learnLevelsSpec : ChangeSpec := { name := "learnLevels", fn := fun _ => fun
  | [d1, d2, d3, d4] => { results := [.lit (.bool true)], args := [d1, d2, d3, d4] }
  | _ => none }
def learnLevelsRow : OpenClaim := { program := "ytjedgdamommgeaa", sum := "3696c0eb56270f1b663b3fc4cc07d1e9fbc6ca7178ff516958331252cfb7fd17", func := "cooper/cooperlaw19.LearnLevels", spec := "learnLevels", unfollowed := true, recurses := true, apart := false }
def LearnLevelsSaid : Prop := learnLevelsRow.holds Try.pinned (OpenSpec.ofChange learnLevelsSpec)

/-- ITS FALSE NEIGHBOUR: 'it returns false'. Refute it at one input. -/
def learnLevelsWrong : ChangeSpec := { name := "learnLevels", fn := fun _ => fun
  | [d1, d2, d3, d4] => { results := [.lit (.bool false)], args := [d1, d2, d3, d4] }
  | _ => none }
def LearnLevelsWrongFalsely : Prop := learnLevelsRow.holds Try.pinned (OpenSpec.ofChange learnLevelsWrong)

/-- 'cooperlaw19.LearnTeaches': WHATEVER THE INPUT: true; the input reads as it did. -/
def learnTeachesSpec : ChangeSpec := { name := "learnTeaches", fn := fun _ => fun
  | [d1, d2, d3] => { results := [.lit (.bool true)], args := [d1, d2, d3] }
  | _ => none }
def learnTeachesRow : OpenClaim := { program := "ytjedgdamommgeaa", sum := "3696c0eb56270f1b663b3fc4cc07d1e9fbc6ca7178ff516958331252cfb7fd17", func := "cooper/cooperlaw19.LearnTeaches", spec := "learnTeaches", unfollowed := true, recurses := true, apart := false }
def LearnTeachesSaid : Prop := learnTeachesRow.holds Try.pinned (OpenSpec.ofChange learnTeachesSpec)

/-- ITS FALSE NEIGHBOUR: 'it returns false'. Refute it at one input. -/
def learnTeachesWrong : ChangeSpec := { name := "learnTeaches", fn := fun _ => fun
  | [d1, d2, d3] => { results := [.lit (.bool false)], args := [d1, d2, d3] }
  | _ => none }
def LearnTeachesWrongFalsely : Prop := learnTeachesRow.holds Try.pinned (OpenSpec.ofChange learnTeachesWrong)

/-- 'cooperlaw19.LearnWhy': WHATEVER THE INPUT: true; the input reads as it did. -/
def learnWhySpec : ChangeSpec := { name := "learnWhy", fn := fun _ => fun
  | [d1, d2, d3, d4] => { results := [.lit (.bool true)], args := [d1, d2, d3, d4] }
  | _ => none }
def learnWhyRow : OpenClaim := { program := "ytjedgdamommgeaa", sum := "3696c0eb56270f1b663b3fc4cc07d1e9fbc6ca7178ff516958331252cfb7fd17", func := "cooper/cooperlaw19.LearnWhy", spec := "learnWhy", unfollowed := true, recurses := true, apart := false }
def LearnWhySaid : Prop := learnWhyRow.holds Try.pinned (OpenSpec.ofChange learnWhySpec)

/-- ITS FALSE NEIGHBOUR: 'it returns false'. Refute it at one input. -/
def learnWhyWrong : ChangeSpec := { name := "learnWhy", fn := fun _ => fun
  | [d1, d2, d3, d4] => { results := [.lit (.bool false)], args := [d1, d2, d3, d4] }
  | _ => none }
def LearnWhyWrongFalsely : Prop := learnWhyRow.holds Try.pinned (OpenSpec.ofChange learnWhyWrong)

/-- 'cooperlaw18.PropNil': WHATEVER THE INPUT: true; the input reads as it did. -/
def propNilSpec : ChangeSpec := { name := "propNil", fn := fun _ => fun
  | [d1, d2] => { results := [.lit (.bool true)], args := [d1, d2] }
  | _ => none }
def propNilRow : OpenClaim := { program := "ytjedgdamommgeaa", sum := "3696c0eb56270f1b663b3fc4cc07d1e9fbc6ca7178ff516958331252cfb7fd17", func := "cooper/cooperlaw18.PropNil", spec := "propNil", unfollowed := true, recurses := true, apart := false }
def PropNilSaid : Prop := propNilRow.holds Try.pinned (OpenSpec.ofChange propNilSpec)

/-- ITS FALSE NEIGHBOUR: 'it returns false'. Refute it at one input. -/
def propNilWrong : ChangeSpec := { name := "propNil", fn := fun _ => fun
  | [d1, d2] => { results := [.lit (.bool false)], args := [d1, d2] }
  | _ => none }
def PropNilWrongFalsely : Prop := propNilRow.holds Try.pinned (OpenSpec.ofChange propNilWrong)

/- THE SECOND FORM. 'bulk': how many values and letters a reading holds, each counted each time it is reached (what is shared counts as often as it is met; a slice's spare places count too). A statement '..UptoSaid' is the law's where the arguments, and the package variables that the reading takes, are together of bulk at most 1048576: NARROWER than '..Said'. Prove '..Said' where nothing that the law and all that it calls make is longer than what came in: it says more and counts as full. Else prove '..UptoSaid'. A law counts once. -/
mutual
def uptoBulk {H : Type} : DataW H → Nat
  | .lit (.string bytes) => bytes.length + 1
  | .lit _ => 1
  | .nil => 1
  | .ptr d => uptoBulk d + 1
  | .slice elems spare => uptoBulkAll elems + uptoBulkAll spare + 1
  | .agg parts => uptoBulkAll parts + 1
  | .iface _ d => uptoBulk d + 1
  | .map entries => uptoBulkEntries entries + 1
  | .held _ => 1
def uptoBulkAll {H : Type} : List (DataW H) → Nat
  | [] => 0
  | d :: r => uptoBulk d + uptoBulkAll r
def uptoBulkEntries {H : Type} : List (Lit × DataW H) → Nat
  | [] => 0
  | x :: r => uptoBulkEntry x + uptoBulkEntries r
def uptoBulkEntry {H : Type} : Lit × DataW H → Nat
  | (.string bytes, d) => bytes.length + uptoBulk d + 1
  | (_, d) => uptoBulk d + 1
 end
def uptoSmall : (H : Type) → List (DataW H) → Bool := fun _ ds => decide (uptoBulkAll ds ≤ 1048576)
def OpenSpec.upto (s : _root_.Go.ChangeSpec) : _root_.Go.OpenSpec := { _root_.Go.OpenSpec.ofChange s with cond := some uptoSmall }

/-- 'cooperlaw19.LearnSame', WHERE WHAT IT READS IS OF BULK AT MOST 1048576: true; the input reads as it did. -/
def learnSameUptoRow : OpenClaim := { program := "ytjedgdamommgeaa", sum := "3696c0eb56270f1b663b3fc4cc07d1e9fbc6ca7178ff516958331252cfb7fd17", func := "cooper/cooperlaw19.LearnSame", spec := "learnSame", unfollowed := true, recurses := true, apart := false, narrowed := true }
def LearnSameUptoSaid : Prop := learnSameUptoRow.holds Try.pinned (OpenSpec.upto learnSameSpec)

/-- 'cooperlaw19.LearnLevels', WHERE WHAT IT READS IS OF BULK AT MOST 1048576: true; the input reads as it did. -/
def learnLevelsUptoRow : OpenClaim := { program := "ytjedgdamommgeaa", sum := "3696c0eb56270f1b663b3fc4cc07d1e9fbc6ca7178ff516958331252cfb7fd17", func := "cooper/cooperlaw19.LearnLevels", spec := "learnLevels", unfollowed := true, recurses := true, apart := false, narrowed := true }
def LearnLevelsUptoSaid : Prop := learnLevelsUptoRow.holds Try.pinned (OpenSpec.upto learnLevelsSpec)

/-- 'cooperlaw19.LearnTeaches', WHERE WHAT IT READS IS OF BULK AT MOST 1048576: true; the input reads as it did. -/
def learnTeachesUptoRow : OpenClaim := { program := "ytjedgdamommgeaa", sum := "3696c0eb56270f1b663b3fc4cc07d1e9fbc6ca7178ff516958331252cfb7fd17", func := "cooper/cooperlaw19.LearnTeaches", spec := "learnTeaches", unfollowed := true, recurses := true, apart := false, narrowed := true }
def LearnTeachesUptoSaid : Prop := learnTeachesUptoRow.holds Try.pinned (OpenSpec.upto learnTeachesSpec)

/-- 'cooperlaw19.LearnWhy', WHERE WHAT IT READS IS OF BULK AT MOST 1048576: true; the input reads as it did. -/
def learnWhyUptoRow : OpenClaim := { program := "ytjedgdamommgeaa", sum := "3696c0eb56270f1b663b3fc4cc07d1e9fbc6ca7178ff516958331252cfb7fd17", func := "cooper/cooperlaw19.LearnWhy", spec := "learnWhy", unfollowed := true, recurses := true, apart := false, narrowed := true }
def LearnWhyUptoSaid : Prop := learnWhyUptoRow.holds Try.pinned (OpenSpec.upto learnWhySpec)

/-- 'cooperlaw18.PropNil', WHERE WHAT IT READS IS OF BULK AT MOST 1048576: true; the input reads as it did. -/
def propNilUptoRow : OpenClaim := { program := "ytjedgdamommgeaa", sum := "3696c0eb56270f1b663b3fc4cc07d1e9fbc6ca7178ff516958331252cfb7fd17", func := "cooper/cooperlaw18.PropNil", spec := "propNil", unfollowed := true, recurses := true, apart := false, narrowed := true }
def PropNilUptoSaid : Prop := propNilUptoRow.holds Try.pinned (OpenSpec.upto propNilSpec)

end Rows
end Go.Proofs.Ytjedgdamommgeaa

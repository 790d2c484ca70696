/-
  No cell of these rows narrows 'for every input' (looked for: loops, veiled, ifaces, maps, wideKeys, modest, calm, conditions, laid).
  DERIVED. THE GIVEN ROWS OF THIS SEAT. 9 by the template 'for every input the law returns true; each argument reads behind the call as it read before'; 0 by the template 'total and deterministic' (their statements: YtjbfgafkjejdjaaTotals.lean).
  GIVEN WITH THE SEED: the statements are not yours to turn. If you find one false, say at which input.
  Laid BY PROGRAM, IN A SANDBOX (cutbox-rows.mjs): the forced cells as the released guide's own fill.sh prints them over the translation e7d4eef01af3e7af… (all of the seat's roots in one cut). By AI agents, Wed Nov 11 2026. No macro, syntax, notation, axiom, sorry.
-/
import Derived.Test.YtjbfgafkjejdjaaChecked
import GoSem.Claim
import GoSem.ClaimJoined
import GoSem.ClaimMapViews
import Derived.JoinedTies
import Derived.KernelRfl
namespace Go.Proofs.Ytjbfgafkjejdjaa
/- THE CELL 'sum', in the pinned program and in every row, IS THE sha256 OF THE DUMP (.gsa) THAT YtjbfgafkjejdjaaProg.lean LOADS. Nothing in Lean hashes anything: it is a label: what it is worth is what the hold of that sum in a sandbox is worth. -/
noncomputable def Try.pinned : Pinned := { name := "ytjbfgafkjejdjaa", sum := "e7d4eef01af3e7af06cc3e754bf5f8d7fa5bdbfcdbc089da93149da219c06054", checked := Try.checked }
namespace Rows
def none {H : Type} : Left H := { results := [], args := [] }

/-- 'cooperlaw23.TotalLimit': WHATEVER THE INPUT: true; the input reads as it did. -/
def totalLimitSpec : ChangeSpec := { name := "totalLimit", fn := fun _ => fun
  | [d1, d2, d3] => { results := [.lit (.bool true)], args := [d1, d2, d3] }
  | _ => none }
def totalLimitRow : OpenClaim := { program := "ytjbfgafkjejdjaa", sum := "e7d4eef01af3e7af06cc3e754bf5f8d7fa5bdbfcdbc089da93149da219c06054", func := "cooper/cooperlaw23.TotalLimit", spec := "totalLimit", unfollowed := true, recurses := true, plainKeys := false, apart := false }
def TotalLimitSaid : Prop := totalLimitRow.holds Try.pinned (OpenSpec.ofChange totalLimitSpec)

/-- ITS FALSE NEIGHBOUR: 'it returns false'. Refute it at one input. -/
def totalLimitWrong : ChangeSpec := { name := "totalLimit", fn := fun _ => fun
  | [d1, d2, d3] => { results := [.lit (.bool false)], args := [d1, d2, d3] }
  | _ => none }
def TotalLimitWrongFalsely : Prop := totalLimitRow.holds Try.pinned (OpenSpec.ofChange totalLimitWrong)

/-- 'cooperlaw23.TotalRepeat': WHATEVER THE INPUT: true; the input reads as it did. -/
def totalRepeatSpec : ChangeSpec := { name := "totalRepeat", fn := fun _ => fun
  | [d1, d2] => { results := [.lit (.bool true)], args := [d1, d2] }
  | _ => none }
def totalRepeatRow : OpenClaim := { program := "ytjbfgafkjejdjaa", sum := "e7d4eef01af3e7af06cc3e754bf5f8d7fa5bdbfcdbc089da93149da219c06054", func := "cooper/cooperlaw23.TotalRepeat", spec := "totalRepeat", unfollowed := true, recurses := true, plainKeys := false, apart := false }
def TotalRepeatSaid : Prop := totalRepeatRow.holds Try.pinned (OpenSpec.ofChange totalRepeatSpec)

/-- ITS FALSE NEIGHBOUR: 'it returns false'. Refute it at one input. -/
def totalRepeatWrong : ChangeSpec := { name := "totalRepeat", fn := fun _ => fun
  | [d1, d2] => { results := [.lit (.bool false)], args := [d1, d2] }
  | _ => none }
def TotalRepeatWrongFalsely : Prop := totalRepeatRow.holds Try.pinned (OpenSpec.ofChange totalRepeatWrong)

/-- 'cooperlaw22.RupChecks': WHATEVER THE INPUT: true; the input reads as it did. -/
def rupChecksSpec : ChangeSpec := { name := "rupChecks", fn := fun _ => fun
  | [d1, d2, d3] => { results := [.lit (.bool true)], args := [d1, d2, d3] }
  | _ => none }
def rupChecksRow : OpenClaim := { program := "ytjbfgafkjejdjaa", sum := "e7d4eef01af3e7af06cc3e754bf5f8d7fa5bdbfcdbc089da93149da219c06054", func := "cooper/cooperlaw22.RupChecks", spec := "rupChecks", unfollowed := true, recurses := true, plainKeys := false, apart := false }
def RupChecksSaid : Prop := rupChecksRow.holds Try.pinned (OpenSpec.ofChange rupChecksSpec)

/-- ITS FALSE NEIGHBOUR: 'it returns false'. Refute it at one input. -/
def rupChecksWrong : ChangeSpec := { name := "rupChecks", fn := fun _ => fun
  | [d1, d2, d3] => { results := [.lit (.bool false)], args := [d1, d2, d3] }
  | _ => none }
def RupChecksWrongFalsely : Prop := rupChecksRow.holds Try.pinned (OpenSpec.ofChange rupChecksWrong)

/-- 'cooperlaw22.RupFollows': WHATEVER THE INPUT: true; the input reads as it did. -/
def rupFollowsSpec : ChangeSpec := { name := "rupFollows", fn := fun _ => fun
  | [d1, d2, d3] => { results := [.lit (.bool true)], args := [d1, d2, d3] }
  | _ => none }
def rupFollowsRow : OpenClaim := { program := "ytjbfgafkjejdjaa", sum := "e7d4eef01af3e7af06cc3e754bf5f8d7fa5bdbfcdbc089da93149da219c06054", func := "cooper/cooperlaw22.RupFollows", spec := "rupFollows", unfollowed := true, recurses := true, plainKeys := false, apart := false }
def RupFollowsSaid : Prop := rupFollowsRow.holds Try.pinned (OpenSpec.ofChange rupFollowsSpec)

/-- ITS FALSE NEIGHBOUR: 'it returns false'. Refute it at one input. -/
def rupFollowsWrong : ChangeSpec := { name := "rupFollows", fn := fun _ => fun
  | [d1, d2, d3] => { results := [.lit (.bool false)], args := [d1, d2, d3] }
  | _ => none }
def RupFollowsWrongFalsely : Prop := rupFollowsRow.holds Try.pinned (OpenSpec.ofChange rupFollowsWrong)

/-- 'cooperlaw22.RupMore': WHATEVER THE INPUT: true; the input reads as it did. -/
def rupMoreSpec : ChangeSpec := { name := "rupMore", fn := fun _ => fun
  | [d1, d2, d3, d4] => { results := [.lit (.bool true)], args := [d1, d2, d3, d4] }
  | _ => none }
def rupMoreRow : OpenClaim := { program := "ytjbfgafkjejdjaa", sum := "e7d4eef01af3e7af06cc3e754bf5f8d7fa5bdbfcdbc089da93149da219c06054", func := "cooper/cooperlaw22.RupMore", spec := "rupMore", unfollowed := true, recurses := true, plainKeys := false, apart := false }
def RupMoreSaid : Prop := rupMoreRow.holds Try.pinned (OpenSpec.ofChange rupMoreSpec)

/-- ITS FALSE NEIGHBOUR: 'it returns false'. Refute it at one input. -/
def rupMoreWrong : ChangeSpec := { name := "rupMore", fn := fun _ => fun
  | [d1, d2, d3, d4] => { results := [.lit (.bool false)], args := [d1, d2, d3, d4] }
  | _ => none }
def RupMoreWrongFalsely : Prop := rupMoreRow.holds Try.pinned (OpenSpec.ofChange rupMoreWrong)

/-- 'cooperlaw22.RupSound': WHATEVER THE INPUT: true; the input reads as it did. -/
def rupSoundSpec : ChangeSpec := { name := "rupSound", fn := fun _ => fun
  | [d1, d2, d3, d4] => { results := [.lit (.bool true)], args := [d1, d2, d3, d4] }
  | _ => none }
def rupSoundRow : OpenClaim := { program := "ytjbfgafkjejdjaa", sum := "e7d4eef01af3e7af06cc3e754bf5f8d7fa5bdbfcdbc089da93149da219c06054", func := "cooper/cooperlaw22.RupSound", spec := "rupSound", unfollowed := true, recurses := true, plainKeys := false, apart := false }
def RupSoundSaid : Prop := rupSoundRow.holds Try.pinned (OpenSpec.ofChange rupSoundSpec)

/-- ITS FALSE NEIGHBOUR: 'it returns false'. Refute it at one input. -/
def rupSoundWrong : ChangeSpec := { name := "rupSound", fn := fun _ => fun
  | [d1, d2, d3, d4] => { results := [.lit (.bool false)], args := [d1, d2, d3, d4] }
  | _ => none }
def RupSoundWrongFalsely : Prop := rupSoundRow.holds Try.pinned (OpenSpec.ofChange rupSoundWrong)

/-- 'cooperlaw18.PropOrder': WHATEVER THE INPUT: true; the input reads as it did. -/
def propOrderSpec : ChangeSpec := { name := "propOrder", fn := fun _ => fun
  | [d1, d2, d3] => { results := [.lit (.bool true)], args := [d1, d2, d3] }
  | _ => none }
def propOrderRow : OpenClaim := { program := "ytjbfgafkjejdjaa", sum := "e7d4eef01af3e7af06cc3e754bf5f8d7fa5bdbfcdbc089da93149da219c06054", func := "cooper/cooperlaw18.PropOrder", spec := "propOrder", unfollowed := true, recurses := true, plainKeys := false, apart := false }
def PropOrderSaid : Prop := propOrderRow.holds Try.pinned (OpenSpec.ofChange propOrderSpec)

/-- ITS FALSE NEIGHBOUR: 'it returns false'. Refute it at one input. -/
def propOrderWrong : ChangeSpec := { name := "propOrder", fn := fun _ => fun
  | [d1, d2, d3] => { results := [.lit (.bool false)], args := [d1, d2, d3] }
  | _ => none }
def PropOrderWrongFalsely : Prop := propOrderRow.holds Try.pinned (OpenSpec.ofChange propOrderWrong)

/-- 'cooperlaw18.PropFresh': WHATEVER THE INPUT: true; the input reads as it did. -/
def propFreshSpec : ChangeSpec := { name := "propFresh", fn := fun _ => fun
  | [d1, d2, d3, d4] => { results := [.lit (.bool true)], args := [d1, d2, d3, d4] }
  | _ => none }
def propFreshRow : OpenClaim := { program := "ytjbfgafkjejdjaa", sum := "e7d4eef01af3e7af06cc3e754bf5f8d7fa5bdbfcdbc089da93149da219c06054", func := "cooper/cooperlaw18.PropFresh", spec := "propFresh", unfollowed := true, recurses := true, plainKeys := false, apart := false }
def PropFreshSaid : Prop := propFreshRow.holds Try.pinned (OpenSpec.ofChange propFreshSpec)

/-- ITS FALSE NEIGHBOUR: 'it returns false'. Refute it at one input. -/
def propFreshWrong : ChangeSpec := { name := "propFresh", fn := fun _ => fun
  | [d1, d2, d3, d4] => { results := [.lit (.bool false)], args := [d1, d2, d3, d4] }
  | _ => none }
def PropFreshWrongFalsely : Prop := propFreshRow.holds Try.pinned (OpenSpec.ofChange propFreshWrong)

/-- 'cooperlaw18.PropNil': WHATEVER THE INPUT: true; the input reads as it did. -/
def propNilSpec : ChangeSpec := { name := "propNil", fn := fun _ => fun
  | [d1, d2] => { results := [.lit (.bool true)], args := [d1, d2] }
  | _ => none }
def propNilRow : OpenClaim := { program := "ytjbfgafkjejdjaa", sum := "e7d4eef01af3e7af06cc3e754bf5f8d7fa5bdbfcdbc089da93149da219c06054", func := "cooper/cooperlaw18.PropNil", spec := "propNil", unfollowed := true, recurses := true, plainKeys := false, apart := false }
def PropNilSaid : Prop := propNilRow.holds Try.pinned (OpenSpec.ofChange propNilSpec)

/-- ITS FALSE NEIGHBOUR: 'it returns false'. Refute it at one input. -/
def propNilWrong : ChangeSpec := { name := "propNil", fn := fun _ => fun
  | [d1, d2] => { results := [.lit (.bool false)], args := [d1, d2] }
  | _ => none }
def PropNilWrongFalsely : Prop := propNilRow.holds Try.pinned (OpenSpec.ofChange propNilWrong)

/- THE SECOND FORM. 'bulk': how many values and letters a reading holds, each counted each time it is reached (what is shared counts as often as it is met; a slice's spare places count too). A statement '..UptoSaid' is the law's where the arguments, and the package variables that the reading takes, are together of bulk at most 1048576: NARROWER than '..Said'. Prove '..Said' where nothing that the law and all that it calls make is longer than what came in: it says more and counts as full. Else prove '..UptoSaid'. A law counts once. -/
mutual
def uptoBulk {H : Type} : DataW H → Nat
  | .lit (.string bytes) => bytes.length + 1
  | .lit _ => 1
  | .nil => 1
  | .ptr d => uptoBulk d + 1
  | .slice elems spare => uptoBulkAll elems + uptoBulkAll spare + 1
  | .agg parts => uptoBulkAll parts + 1
  | .iface _ d => uptoBulk d + 1
  | .map entries => uptoBulkEntries entries + 1
  | .held _ => 1
def uptoBulkAll {H : Type} : List (DataW H) → Nat
  | [] => 0
  | d :: r => uptoBulk d + uptoBulkAll r
def uptoBulkEntries {H : Type} : List (Lit × DataW H) → Nat
  | [] => 0
  | x :: r => uptoBulkEntry x + uptoBulkEntries r
def uptoBulkEntry {H : Type} : Lit × DataW H → Nat
  | (.string bytes, d) => bytes.length + uptoBulk d + 1
  | (_, d) => uptoBulk d + 1
 end
def uptoSmall : (H : Type) → List (DataW H) → Bool := fun _ ds => decide (uptoBulkAll ds ≤ 1048576)
def OpenSpec.upto (s : _root_.Go.ChangeSpec) : _root_.Go.OpenSpec := { _root_.Go.OpenSpec.ofChange s with cond := some uptoSmall }

/-- 'cooperlaw23.TotalLimit', WHERE WHAT IT READS IS OF BULK AT MOST 1048576: true; the input reads as it did. -/
def totalLimitUptoRow : OpenClaim := { program := "ytjbfgafkjejdjaa", sum := "e7d4eef01af3e7af06cc3e754bf5f8d7fa5bdbfcdbc089da93149da219c06054", func := "cooper/cooperlaw23.TotalLimit", spec := "totalLimit", unfollowed := true, recurses := true, plainKeys := false, apart := false, narrowed := true }
def TotalLimitUptoSaid : Prop := totalLimitUptoRow.holds Try.pinned (OpenSpec.upto totalLimitSpec)

/-- 'cooperlaw23.TotalRepeat', WHERE WHAT IT READS IS OF BULK AT MOST 1048576: true; the input reads as it did. -/
def totalRepeatUptoRow : OpenClaim := { program := "ytjbfgafkjejdjaa", sum := "e7d4eef01af3e7af06cc3e754bf5f8d7fa5bdbfcdbc089da93149da219c06054", func := "cooper/cooperlaw23.TotalRepeat", spec := "totalRepeat", unfollowed := true, recurses := true, plainKeys := false, apart := false, narrowed := true }
def TotalRepeatUptoSaid : Prop := totalRepeatUptoRow.holds Try.pinned (OpenSpec.upto totalRepeatSpec)

/-- 'cooperlaw22.RupChecks', WHERE WHAT IT READS IS OF BULK AT MOST 1048576: true; the input reads as it did. -/
def rupChecksUptoRow : OpenClaim := { program := "ytjbfgafkjejdjaa", sum := "e7d4eef01af3e7af06cc3e754bf5f8d7fa5bdbfcdbc089da93149da219c06054", func := "cooper/cooperlaw22.RupChecks", spec := "rupChecks", unfollowed := true, recurses := true, plainKeys := false, apart := false, narrowed := true }
def RupChecksUptoSaid : Prop := rupChecksUptoRow.holds Try.pinned (OpenSpec.upto rupChecksSpec)

/-- 'cooperlaw22.RupFollows', WHERE WHAT IT READS IS OF BULK AT MOST 1048576: true; the input reads as it did. -/
def rupFollowsUptoRow : OpenClaim := { program := "ytjbfgafkjejdjaa", sum := "e7d4eef01af3e7af06cc3e754bf5f8d7fa5bdbfcdbc089da93149da219c06054", func := "cooper/cooperlaw22.RupFollows", spec := "rupFollows", unfollowed := true, recurses := true, plainKeys := false, apart := false, narrowed := true }
def RupFollowsUptoSaid : Prop := rupFollowsUptoRow.holds Try.pinned (OpenSpec.upto rupFollowsSpec)

/-- 'cooperlaw22.RupMore', WHERE WHAT IT READS IS OF BULK AT MOST 1048576: true; the input reads as it did. -/
def rupMoreUptoRow : OpenClaim := { program := "ytjbfgafkjejdjaa", sum := "e7d4eef01af3e7af06cc3e754bf5f8d7fa5bdbfcdbc089da93149da219c06054", func := "cooper/cooperlaw22.RupMore", spec := "rupMore", unfollowed := true, recurses := true, plainKeys := false, apart := false, narrowed := true }
def RupMoreUptoSaid : Prop := rupMoreUptoRow.holds Try.pinned (OpenSpec.upto rupMoreSpec)

/-- 'cooperlaw22.RupSound', WHERE WHAT IT READS IS OF BULK AT MOST 1048576: true; the input reads as it did. -/
def rupSoundUptoRow : OpenClaim := { program := "ytjbfgafkjejdjaa", sum := "e7d4eef01af3e7af06cc3e754bf5f8d7fa5bdbfcdbc089da93149da219c06054", func := "cooper/cooperlaw22.RupSound", spec := "rupSound", unfollowed := true, recurses := true, plainKeys := false, apart := false, narrowed := true }
def RupSoundUptoSaid : Prop := rupSoundUptoRow.holds Try.pinned (OpenSpec.upto rupSoundSpec)

/-- 'cooperlaw18.PropOrder', WHERE WHAT IT READS IS OF BULK AT MOST 1048576: true; the input reads as it did. -/
def propOrderUptoRow : OpenClaim := { program := "ytjbfgafkjejdjaa", sum := "e7d4eef01af3e7af06cc3e754bf5f8d7fa5bdbfcdbc089da93149da219c06054", func := "cooper/cooperlaw18.PropOrder", spec := "propOrder", unfollowed := true, recurses := true, plainKeys := false, apart := false, narrowed := true }
def PropOrderUptoSaid : Prop := propOrderUptoRow.holds Try.pinned (OpenSpec.upto propOrderSpec)

/-- 'cooperlaw18.PropFresh', WHERE WHAT IT READS IS OF BULK AT MOST 1048576: true; the input reads as it did. -/
def propFreshUptoRow : OpenClaim := { program := "ytjbfgafkjejdjaa", sum := "e7d4eef01af3e7af06cc3e754bf5f8d7fa5bdbfcdbc089da93149da219c06054", func := "cooper/cooperlaw18.PropFresh", spec := "propFresh", unfollowed := true, recurses := true, plainKeys := false, apart := false, narrowed := true }
def PropFreshUptoSaid : Prop := propFreshUptoRow.holds Try.pinned (OpenSpec.upto propFreshSpec)

/-- 'cooperlaw18.PropNil', WHERE WHAT IT READS IS OF BULK AT MOST 1048576: true; the input reads as it did. -/
def propNilUptoRow : OpenClaim := { program := "ytjbfgafkjejdjaa", sum := "e7d4eef01af3e7af06cc3e754bf5f8d7fa5bdbfcdbc089da93149da219c06054", func := "cooper/cooperlaw18.PropNil", spec := "propNil", unfollowed := true, recurses := true, plainKeys := false, apart := false, narrowed := true }
def PropNilUptoSaid : Prop := propNilUptoRow.holds Try.pinned (OpenSpec.upto propNilSpec)

end Rows
end Go.Proofs.Ytjbfgafkjejdjaa

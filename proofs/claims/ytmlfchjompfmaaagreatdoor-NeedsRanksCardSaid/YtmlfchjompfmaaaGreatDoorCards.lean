/-
  DERIVED. GIVEN WITH THE SEED: THE CARDS: each row of YtmlfchjompfmaaaGreatDoorRows.lean that lists a variable, with what it lists TIED to the program's text (the seventh form; the later family's looks); each row that meets fmt, with fmt's text TOLD by the authors' own Lean function (tested against real Go, not proved from fmt's source: count such statements apart). THE CARD IS WHAT COUNTS. Prove the row's statement (the work); the ties are given (YtmlfchjompfmaaaGreatDoorTie.lean); close each card by the builder's one call (the guide's Derived/Test/ToyasCard.lean, 'card_holds'). Laid BY PROGRAM, IN A SANDBOX (cutbox-door.mjs). By AI agents, Wed Nov 11 2026. No macro, syntax, notation, axiom, sorry.
-/
import Derived.Test.YtmlfchjompfmaaaGreatDoorRows
import GoSem.ClaimSeven
namespace Go.Proofs.YtmlfchjompfmaaaGreatDoor
namespace Rows

/-- THE TIED CARD OF 'cooperlaw10.NeedsRanks'. -/
def needsRanksCard : Claim7 := { stood := { row := needsRanksRow, standIns := [], harness := (true, "6c0fd21f2a7edd5c2e6dd6287b551d8fab3771bc8ddf87f53e5e4591cfaf4747"), looks := true }, kinds := [], alts := [], laidByText := true, laidKinds := [.data, .data, .data, .data, .sentinel, .sentinel, .pinned], laidTests := true, laidLooks := .later }
def NeedsRanksCardSaid : Prop := Claim7.holds Tryz.pinned (.plain (OpenSpec.ofChange needsRanksSpec)) needsRanksCard

/-- THE SECOND FORM's CARD OF 'cooperlaw10.NeedsRanks'. -/
def needsRanksUptoCard : Claim7 := { stood := { row := needsRanksUptoRow, standIns := [], harness := (true, "6c0fd21f2a7edd5c2e6dd6287b551d8fab3771bc8ddf87f53e5e4591cfaf4747"), looks := true }, kinds := [], alts := [], laidByText := true, laidKinds := [.data, .data, .data, .data, .sentinel, .sentinel, .pinned], laidTests := true, laidLooks := .later }
def NeedsRanksUptoCardSaid : Prop := Claim7.holds Tryz.pinned (.plain (OpenSpec.upto needsRanksSpec)) needsRanksUptoCard
end Rows
end Go.Proofs.YtmlfchjompfmaaaGreatDoor

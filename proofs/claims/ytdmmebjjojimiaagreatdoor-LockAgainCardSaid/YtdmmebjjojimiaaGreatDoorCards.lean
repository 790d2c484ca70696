/-
  DERIVED. GIVEN WITH THE SEED: THE CARDS: each row of YtdmmebjjojimiaaGreatDoorRows.lean that lists a variable, with what it lists TIED to the program's text (the seventh form; the later family's looks); each row that meets fmt, with fmt's text TOLD by the authors' own Lean function (tested against real Go, not proved from fmt's source: count such statements apart). THE CARD IS WHAT COUNTS. Prove the row's statement (the work); the ties are given (YtdmmebjjojimiaaGreatDoorTie.lean); close each card by the builder's one call (the guide's Derived/Test/ToyasCard.lean, 'card_holds'). Laid BY PROGRAM, IN A SANDBOX (cutbox-door.mjs). By AI agents, Wed Nov 11 2026. No macro, syntax, notation, axiom, sorry.
-/
import Derived.Test.YtdmmebjjojimiaaGreatDoorRows
import GoSem.ClaimSeven
namespace Go.Proofs.YtdmmebjjojimiaaGreatDoor
namespace Rows

/-- THE TIED CARD OF 'cooperlaw28.LockAgain'. -/
def lockAgainCard : Claim7 := { stood := { row := lockAgainRow, standIns := [], harness := (true, "2f63823f86ec4b5b881815ae00fb8494dd07749f778e8069bd46e0bff319c29f"), looks := true }, kinds := [], alts := [], laidByText := true, laidKinds := [.data, .data, .data, .data, .sentinel, .sentinel, .pinned], laidTests := true, laidLooks := .later }
def LockAgainCardSaid : Prop := Claim7.holds Tryz.pinned (.plain (OpenSpec.ofChange lockAgainSpec)) lockAgainCard

/-- THE TIED CARD OF 'cooperlaw14.EdgeNone'. -/
def edgeNoneCard : Claim7 := { stood := { row := edgeNoneRow, standIns := [], harness := (true, "2f63823f86ec4b5b881815ae00fb8494dd07749f778e8069bd46e0bff319c29f"), looks := true }, kinds := [], alts := [], laidByText := true, laidKinds := [.data, .data, .data, .data, .sentinel, .sentinel, .pinned], laidTests := true, laidLooks := .later }
def EdgeNoneCardSaid : Prop := Claim7.holds Tryz.pinned (.plain (OpenSpec.ofChange edgeNoneSpec)) edgeNoneCard

/-- THE TIED CARD OF 'cooperlaw16.FormulaBuilds'. -/
def formulaBuildsCard : Claim7 := { stood := { row := formulaBuildsRow, standIns := [], harness := (true, "2f63823f86ec4b5b881815ae00fb8494dd07749f778e8069bd46e0bff319c29f"), looks := true }, kinds := [], alts := [], laidByText := true, laidKinds := [.data, .data, .data, .data, .sentinel, .sentinel, .pinned], laidTests := true, laidLooks := .later }
def FormulaBuildsCardSaid : Prop := Claim7.holds Tryz.pinned (.plain (OpenSpec.ofChange formulaBuildsSpec)) formulaBuildsCard

/-- THE TIED CARD OF 'cooperlaw16.FormulaNil'. -/
def formulaNilCard : Claim7 := { stood := { row := formulaNilRow, standIns := [], harness := (true, "2f63823f86ec4b5b881815ae00fb8494dd07749f778e8069bd46e0bff319c29f"), looks := true }, kinds := [], alts := [], laidByText := true, laidKinds := [.data, .data, .data, .data, .sentinel, .sentinel, .pinned], laidTests := true, laidLooks := .later }
def FormulaNilCardSaid : Prop := Claim7.holds Tryz.pinned (.plain (OpenSpec.ofChange formulaNilSpec)) formulaNilCard

/-- THE SECOND FORM's CARD OF 'cooperlaw28.LockAgain'. -/
def lockAgainUptoCard : Claim7 := { stood := { row := lockAgainUptoRow, standIns := [], harness := (true, "2f63823f86ec4b5b881815ae00fb8494dd07749f778e8069bd46e0bff319c29f"), looks := true }, kinds := [], alts := [], laidByText := true, laidKinds := [.data, .data, .data, .data, .sentinel, .sentinel, .pinned], laidTests := true, laidLooks := .later }
def LockAgainUptoCardSaid : Prop := Claim7.holds Tryz.pinned (.plain (OpenSpec.upto lockAgainSpec)) lockAgainUptoCard

/-- THE SECOND FORM's CARD OF 'cooperlaw14.EdgeNone'. -/
def edgeNoneUptoCard : Claim7 := { stood := { row := edgeNoneUptoRow, standIns := [], harness := (true, "2f63823f86ec4b5b881815ae00fb8494dd07749f778e8069bd46e0bff319c29f"), looks := true }, kinds := [], alts := [], laidByText := true, laidKinds := [.data, .data, .data, .data, .sentinel, .sentinel, .pinned], laidTests := true, laidLooks := .later }
def EdgeNoneUptoCardSaid : Prop := Claim7.holds Tryz.pinned (.plain (OpenSpec.upto edgeNoneSpec)) edgeNoneUptoCard

/-- THE SECOND FORM's CARD OF 'cooperlaw16.FormulaBuilds'. -/
def formulaBuildsUptoCard : Claim7 := { stood := { row := formulaBuildsUptoRow, standIns := [], harness := (true, "2f63823f86ec4b5b881815ae00fb8494dd07749f778e8069bd46e0bff319c29f"), looks := true }, kinds := [], alts := [], laidByText := true, laidKinds := [.data, .data, .data, .data, .sentinel, .sentinel, .pinned], laidTests := true, laidLooks := .later }
def FormulaBuildsUptoCardSaid : Prop := Claim7.holds Tryz.pinned (.plain (OpenSpec.upto formulaBuildsSpec)) formulaBuildsUptoCard

/-- THE SECOND FORM's CARD OF 'cooperlaw16.FormulaNil'. -/
def formulaNilUptoCard : Claim7 := { stood := { row := formulaNilUptoRow, standIns := [], harness := (true, "2f63823f86ec4b5b881815ae00fb8494dd07749f778e8069bd46e0bff319c29f"), looks := true }, kinds := [], alts := [], laidByText := true, laidKinds := [.data, .data, .data, .data, .sentinel, .sentinel, .pinned], laidTests := true, laidLooks := .later }
def FormulaNilUptoCardSaid : Prop := Claim7.holds Tryz.pinned (.plain (OpenSpec.upto formulaNilSpec)) formulaNilUptoCard
end Rows
end Go.Proofs.YtdmmebjjojimiaaGreatDoor

/-
  DERIVED. GIVEN WITH THE SEED: THE CARDS: each row of YtmlfchjompfmaaaDoorRows.lean that lists a variable, with what it lists TIED to the program's text (the seventh form; the later family's looks); each row that meets fmt, with fmt's text TOLD by the authors' own Lean function (tested against real Go, not proved from fmt's source: count such statements apart). THE CARD IS WHAT COUNTS. Prove the row's statement (the work); the ties are given (YtmlfchjompfmaaaDoorTie.lean); close each card by the builder's one call (the guide's Derived/Test/ToyasCard.lean, 'card_holds'). Laid BY PROGRAM, IN A SANDBOX (cutbox-door.mjs). By AI agents, Wed Nov 11 2026. No macro, syntax, notation, axiom, sorry.
-/
import Derived.Test.YtmlfchjompfmaaaDoorRows
import GoSem.ClaimSeven
namespace Go.Proofs.YtmlfchjompfmaaaDoor
namespace Rows

/-- THE TIED CARD OF 'cooperlaw10.NeedsRow'. -/
def needsRowCard : Claim7 := { stood := { row := needsRowRow, standIns := [], harness := (true, "c1b6030958343d3d37021840c7eb1b44f7279dc7a683025da1aee2cc81e54f4e"), looks := true }, kinds := [], alts := [], laidByText := true, laidKinds := [.data, .data, .data, .data, .sentinel, .sentinel, .pinned], laidTests := true, laidLooks := .later }
def NeedsRowCardSaid : Prop := Claim7.holds Tryd.pinned (.plain (OpenSpec.ofChange needsRowSpec)) needsRowCard

/-- THE TIED CARD OF 'cooperlaw28.LockLess'. -/
def lockLessCard : Claim7 := { stood := { row := lockLessRow, standIns := [], harness := (true, "c1b6030958343d3d37021840c7eb1b44f7279dc7a683025da1aee2cc81e54f4e"), looks := true }, kinds := [], alts := [], laidByText := true, laidKinds := [.data, .data, .data, .data, .sentinel, .sentinel, .pinned], laidTests := true, laidLooks := .later }
def LockLessCardSaid : Prop := Claim7.holds Tryd.pinned (.plain (OpenSpec.ofChange lockLessSpec)) lockLessCard

/-- THE TIED CARD OF 'cooperlaw28.LockWrites'. -/
def lockWritesCard : Claim7 := { stood := { row := lockWritesRow, standIns := [], harness := (true, "c1b6030958343d3d37021840c7eb1b44f7279dc7a683025da1aee2cc81e54f4e"), looks := true }, kinds := [], alts := [], laidByText := true, laidKinds := [.data, .data, .data, .data, .sentinel, .sentinel, .pinned], laidTests := true, laidLooks := .later }
def LockWritesCardSaid : Prop := Claim7.holds Tryd.pinned (.plain (OpenSpec.ofChange lockWritesSpec)) lockWritesCard

/-- THE TIED CARD OF 'cooperlaw28.LockParses'. -/
def lockParsesCard : Claim7 := { stood := { row := lockParsesRow, standIns := [], harness := (true, "c1b6030958343d3d37021840c7eb1b44f7279dc7a683025da1aee2cc81e54f4e"), looks := true }, kinds := [], alts := [], laidByText := true, laidKinds := [.data, .data, .data, .data, .sentinel, .sentinel, .pinned], laidTests := true, laidLooks := .later }
def LockParsesCardSaid : Prop := Claim7.holds Tryd.pinned (.plain (OpenSpec.ofChange lockParsesSpec)) lockParsesCard

/-- THE TIED CARD OF 'cooperlaw28.LockApart'. -/
def lockApartCard : Claim7 := { stood := { row := lockApartRow, standIns := [], harness := (true, "c1b6030958343d3d37021840c7eb1b44f7279dc7a683025da1aee2cc81e54f4e"), looks := true }, kinds := [], alts := [], laidByText := true, laidKinds := [.data, .data, .data, .data, .sentinel, .sentinel, .pinned], laidTests := true, laidLooks := .later }
def LockApartCardSaid : Prop := Claim7.holds Tryd.pinned (.plain (OpenSpec.ofChange lockApartSpec)) lockApartCard

/-- THE SECOND FORM's CARD OF 'cooperlaw10.NeedsRow'. -/
def needsRowUptoCard : Claim7 := { stood := { row := needsRowUptoRow, standIns := [], harness := (true, "c1b6030958343d3d37021840c7eb1b44f7279dc7a683025da1aee2cc81e54f4e"), looks := true }, kinds := [], alts := [], laidByText := true, laidKinds := [.data, .data, .data, .data, .sentinel, .sentinel, .pinned], laidTests := true, laidLooks := .later }
def NeedsRowUptoCardSaid : Prop := Claim7.holds Tryd.pinned (.plain (OpenSpec.upto needsRowSpec)) needsRowUptoCard

/-- THE SECOND FORM's CARD OF 'cooperlaw28.LockLess'. -/
def lockLessUptoCard : Claim7 := { stood := { row := lockLessUptoRow, standIns := [], harness := (true, "c1b6030958343d3d37021840c7eb1b44f7279dc7a683025da1aee2cc81e54f4e"), looks := true }, kinds := [], alts := [], laidByText := true, laidKinds := [.data, .data, .data, .data, .sentinel, .sentinel, .pinned], laidTests := true, laidLooks := .later }
def LockLessUptoCardSaid : Prop := Claim7.holds Tryd.pinned (.plain (OpenSpec.upto lockLessSpec)) lockLessUptoCard

/-- THE SECOND FORM's CARD OF 'cooperlaw28.LockWrites'. -/
def lockWritesUptoCard : Claim7 := { stood := { row := lockWritesUptoRow, standIns := [], harness := (true, "c1b6030958343d3d37021840c7eb1b44f7279dc7a683025da1aee2cc81e54f4e"), looks := true }, kinds := [], alts := [], laidByText := true, laidKinds := [.data, .data, .data, .data, .sentinel, .sentinel, .pinned], laidTests := true, laidLooks := .later }
def LockWritesUptoCardSaid : Prop := Claim7.holds Tryd.pinned (.plain (OpenSpec.upto lockWritesSpec)) lockWritesUptoCard

/-- THE SECOND FORM's CARD OF 'cooperlaw28.LockParses'. -/
def lockParsesUptoCard : Claim7 := { stood := { row := lockParsesUptoRow, standIns := [], harness := (true, "c1b6030958343d3d37021840c7eb1b44f7279dc7a683025da1aee2cc81e54f4e"), looks := true }, kinds := [], alts := [], laidByText := true, laidKinds := [.data, .data, .data, .data, .sentinel, .sentinel, .pinned], laidTests := true, laidLooks := .later }
def LockParsesUptoCardSaid : Prop := Claim7.holds Tryd.pinned (.plain (OpenSpec.upto lockParsesSpec)) lockParsesUptoCard

/-- THE SECOND FORM's CARD OF 'cooperlaw28.LockApart'. -/
def lockApartUptoCard : Claim7 := { stood := { row := lockApartUptoRow, standIns := [], harness := (true, "c1b6030958343d3d37021840c7eb1b44f7279dc7a683025da1aee2cc81e54f4e"), looks := true }, kinds := [], alts := [], laidByText := true, laidKinds := [.data, .data, .data, .data, .sentinel, .sentinel, .pinned], laidTests := true, laidLooks := .later }
def LockApartUptoCardSaid : Prop := Claim7.holds Tryd.pinned (.plain (OpenSpec.upto lockApartSpec)) lockApartUptoCard
end Rows
end Go.Proofs.YtmlfchjompfmaaaDoor

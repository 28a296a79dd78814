/-
  DERIVED. GIVEN WITH THE SEED: THE CARDS: each row of YtkkkigkfklngdaaDoorRows.lean that lists a variable, with what it lists TIED to the program's text (the seventh form; the later family's looks); each row that meets fmt, with fmt's text TOLD by the authors' own Lean function (tested against real Go, not proved from fmt's source: count such statements apart). THE CARD IS WHAT COUNTS. Prove the row's statement (the work); the ties are given (YtkkkigkfklngdaaDoorTie.lean); close each card by the builder's one call (the guide's Derived/Test/ToyasCard.lean, 'card_holds'). Laid BY PROGRAM, IN A SANDBOX (cutbox-door.mjs). By AI agents, Wed Nov 11 2026. No macro, syntax, notation, axiom, sorry.
-/
import Derived.Test.YtkkkigkfklngdaaDoorRows
import GoSem.ClaimSeven
namespace Go.Proofs.YtkkkigkfklngdaaDoor
namespace Rows

/-- THE TIED CARD OF 'jalousielaw11.RowBlank'. -/
def rowBlankCard : Claim7 := { stood := { row := rowBlankRow, standIns := [], harness := (true, "ff8e2e86bf1d8bceb65eb4d7119f59258829ddfb439a30cb7ad48bfd0ca19cd7"), looks := false }, kinds := [], alts := [], laidByText := true, laidKinds := [.data, .pinned], laidTests := true, laidLooks := .later }
def RowBlankCardSaid : Prop := Claim7.holds Tryd.pinned (.plain (OpenSpec.ofChange rowBlankSpec)) rowBlankCard

/-- THE TIED CARD OF 'jalousielaw11.RowBack'. -/
def rowBackCard : Claim7 := { stood := { row := rowBackRow, standIns := [], harness := (true, "ff8e2e86bf1d8bceb65eb4d7119f59258829ddfb439a30cb7ad48bfd0ca19cd7"), looks := false }, kinds := [], alts := [], laidByText := true, laidKinds := [.data, .pinned], laidTests := true, laidLooks := .later }
def RowBackCardSaid : Prop := Claim7.holds Tryd.pinned (.plain (OpenSpec.ofChange rowBackSpec)) rowBackCard

/-- THE TIED CARD OF 'jalousielaw11.RowWhole'. -/
def rowWholeCard : Claim7 := { stood := { row := rowWholeRow, standIns := [], harness := (true, "ff8e2e86bf1d8bceb65eb4d7119f59258829ddfb439a30cb7ad48bfd0ca19cd7"), looks := false }, kinds := [], alts := [], laidByText := true, laidKinds := [.data, .pinned], laidTests := true, laidLooks := .later }
def RowWholeCardSaid : Prop := Claim7.holds Tryd.pinned (.plain (OpenSpec.ofChange rowWholeSpec)) rowWholeCard

/-- THE TIED CARD OF 'jalousielaw11.RowApart'. -/
def rowApartCard : Claim7 := { stood := { row := rowApartRow, standIns := [], harness := (true, "ff8e2e86bf1d8bceb65eb4d7119f59258829ddfb439a30cb7ad48bfd0ca19cd7"), looks := false }, kinds := [], alts := [], laidByText := true, laidKinds := [.data, .pinned], laidTests := true, laidLooks := .later }
def RowApartCardSaid : Prop := Claim7.holds Tryd.pinned (.plain (OpenSpec.ofChange rowApartSpec)) rowApartCard

/-- THE TIED CARD OF 'jalousielaw11.RowKnown'. -/
def rowKnownCard : Claim7 := { stood := { row := rowKnownRow, standIns := [], harness := (true, "ff8e2e86bf1d8bceb65eb4d7119f59258829ddfb439a30cb7ad48bfd0ca19cd7"), looks := false }, kinds := [], alts := [], laidByText := true, laidKinds := [.data, .pinned], laidTests := true, laidLooks := .later }
def RowKnownCardSaid : Prop := Claim7.holds Tryd.pinned (.plain (OpenSpec.ofChange rowKnownSpec)) rowKnownCard

/-- THE SECOND FORM's CARD OF 'jalousielaw11.RowBlank'. -/
def rowBlankUptoCard : Claim7 := { stood := { row := rowBlankUptoRow, standIns := [], harness := (true, "ff8e2e86bf1d8bceb65eb4d7119f59258829ddfb439a30cb7ad48bfd0ca19cd7"), looks := false }, kinds := [], alts := [], laidByText := true, laidKinds := [.data, .pinned], laidTests := true, laidLooks := .later }
def RowBlankUptoCardSaid : Prop := Claim7.holds Tryd.pinned (.plain (OpenSpec.upto rowBlankSpec)) rowBlankUptoCard

/-- THE SECOND FORM's CARD OF 'jalousielaw11.RowBack'. -/
def rowBackUptoCard : Claim7 := { stood := { row := rowBackUptoRow, standIns := [], harness := (true, "ff8e2e86bf1d8bceb65eb4d7119f59258829ddfb439a30cb7ad48bfd0ca19cd7"), looks := false }, kinds := [], alts := [], laidByText := true, laidKinds := [.data, .pinned], laidTests := true, laidLooks := .later }
def RowBackUptoCardSaid : Prop := Claim7.holds Tryd.pinned (.plain (OpenSpec.upto rowBackSpec)) rowBackUptoCard

/-- THE SECOND FORM's CARD OF 'jalousielaw11.RowWhole'. -/
def rowWholeUptoCard : Claim7 := { stood := { row := rowWholeUptoRow, standIns := [], harness := (true, "ff8e2e86bf1d8bceb65eb4d7119f59258829ddfb439a30cb7ad48bfd0ca19cd7"), looks := false }, kinds := [], alts := [], laidByText := true, laidKinds := [.data, .pinned], laidTests := true, laidLooks := .later }
def RowWholeUptoCardSaid : Prop := Claim7.holds Tryd.pinned (.plain (OpenSpec.upto rowWholeSpec)) rowWholeUptoCard

/-- THE SECOND FORM's CARD OF 'jalousielaw11.RowApart'. -/
def rowApartUptoCard : Claim7 := { stood := { row := rowApartUptoRow, standIns := [], harness := (true, "ff8e2e86bf1d8bceb65eb4d7119f59258829ddfb439a30cb7ad48bfd0ca19cd7"), looks := false }, kinds := [], alts := [], laidByText := true, laidKinds := [.data, .pinned], laidTests := true, laidLooks := .later }
def RowApartUptoCardSaid : Prop := Claim7.holds Tryd.pinned (.plain (OpenSpec.upto rowApartSpec)) rowApartUptoCard

/-- THE SECOND FORM's CARD OF 'jalousielaw11.RowKnown'. -/
def rowKnownUptoCard : Claim7 := { stood := { row := rowKnownUptoRow, standIns := [], harness := (true, "ff8e2e86bf1d8bceb65eb4d7119f59258829ddfb439a30cb7ad48bfd0ca19cd7"), looks := false }, kinds := [], alts := [], laidByText := true, laidKinds := [.data, .pinned], laidTests := true, laidLooks := .later }
def RowKnownUptoCardSaid : Prop := Claim7.holds Tryd.pinned (.plain (OpenSpec.upto rowKnownSpec)) rowKnownUptoCard
end Rows
end Go.Proofs.YtkkkigkfklngdaaDoor

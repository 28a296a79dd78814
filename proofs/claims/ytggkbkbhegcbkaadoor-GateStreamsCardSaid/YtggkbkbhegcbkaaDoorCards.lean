/-
  DERIVED. GIVEN WITH THE SEED: THE CARDS: each row of YtggkbkbhegcbkaaDoorRows.lean that lists a variable, with what it lists TIED to the program's text (the seventh form; the later family's looks); each row that meets fmt, with fmt's text TOLD by the authors' own Lean function (tested against real Go, not proved from fmt's source: count such statements apart). THE CARD IS WHAT COUNTS. Prove the row's statement (the work); the ties are given (YtggkbkbhegcbkaaDoorTie.lean); close each card by the builder's one call (the guide's Derived/Test/ToyasCard.lean, 'card_holds'). Laid BY PROGRAM, IN A SANDBOX (cutbox-door.mjs). By AI agents, Wed Nov 11 2026. No macro, syntax, notation, axiom, sorry.
-/
import Derived.Test.YtggkbkbhegcbkaaDoorRows
import GoSem.ClaimSeven
namespace Go.Proofs.YtggkbkbhegcbkaaDoor
namespace Rows

/-- THE TIED CARD OF 'jalousielaw18.GateNarrow'. -/
def gateNarrowCard : Claim7 := { stood := { row := gateNarrowRow, standIns := [], harness := (true, "a62e1668b956327993885656dee1e302f0d44fe466df980a01b216d2bc2144b2"), looks := false }, kinds := [], alts := [], laidByText := true, laidKinds := [.data, .pinned], laidTests := true, laidLooks := .later }
def GateNarrowCardSaid : Prop := Claim7.holds Tryd.pinned (.plain (OpenSpec.ofChange gateNarrowSpec)) gateNarrowCard

/-- THE TIED CARD OF 'jalousielaw18.GateClip'. -/
def gateClipCard : Claim7 := { stood := { row := gateClipRow, standIns := [], harness := (true, "a62e1668b956327993885656dee1e302f0d44fe466df980a01b216d2bc2144b2"), looks := false }, kinds := [], alts := [], laidByText := true, laidKinds := [.data, .pinned], laidTests := true, laidLooks := .later }
def GateClipCardSaid : Prop := Claim7.holds Tryd.pinned (.plain (OpenSpec.ofChange gateClipSpec)) gateClipCard

/-- THE TIED CARD OF 'jalousielaw18.GateKnown'. -/
def gateKnownCard : Claim7 := { stood := { row := gateKnownRow, standIns := [], harness := (true, "a62e1668b956327993885656dee1e302f0d44fe466df980a01b216d2bc2144b2"), looks := false }, kinds := [], alts := [], laidByText := true, laidKinds := [.data, .pinned], laidTests := true, laidLooks := .later }
def GateKnownCardSaid : Prop := Claim7.holds Tryd.pinned (.plain (OpenSpec.ofChange gateKnownSpec)) gateKnownCard

/-- THE TIED CARD OF 'jalousielaw18.GateStreams'. -/
def gateStreamsCard : Claim7 := { stood := { row := gateStreamsRow, standIns := [], harness := (true, "a62e1668b956327993885656dee1e302f0d44fe466df980a01b216d2bc2144b2"), looks := false }, kinds := [], alts := [], laidByText := true, laidKinds := [.data, .pinned], laidTests := true, laidLooks := .later }
def GateStreamsCardSaid : Prop := Claim7.holds Tryd.pinned (.plain (OpenSpec.ofChange gateStreamsSpec)) gateStreamsCard

/-- THE TIED CARD OF 'jalousielaw18.GateTexts'. -/
def gateTextsCard : Claim7 := { stood := { row := gateTextsRow, standIns := [], harness := (true, "a62e1668b956327993885656dee1e302f0d44fe466df980a01b216d2bc2144b2"), looks := false }, kinds := [], alts := [], laidByText := true, laidKinds := [.data, .pinned], laidTests := true, laidLooks := .later }
def GateTextsCardSaid : Prop := Claim7.holds Tryd.pinned (.plain (OpenSpec.ofChange gateTextsSpec)) gateTextsCard

/-- THE SECOND FORM's CARD OF 'jalousielaw18.GateNarrow'. -/
def gateNarrowUptoCard : Claim7 := { stood := { row := gateNarrowUptoRow, standIns := [], harness := (true, "a62e1668b956327993885656dee1e302f0d44fe466df980a01b216d2bc2144b2"), looks := false }, kinds := [], alts := [], laidByText := true, laidKinds := [.data, .pinned], laidTests := true, laidLooks := .later }
def GateNarrowUptoCardSaid : Prop := Claim7.holds Tryd.pinned (.plain (OpenSpec.upto gateNarrowSpec)) gateNarrowUptoCard

/-- THE SECOND FORM's CARD OF 'jalousielaw18.GateClip'. -/
def gateClipUptoCard : Claim7 := { stood := { row := gateClipUptoRow, standIns := [], harness := (true, "a62e1668b956327993885656dee1e302f0d44fe466df980a01b216d2bc2144b2"), looks := false }, kinds := [], alts := [], laidByText := true, laidKinds := [.data, .pinned], laidTests := true, laidLooks := .later }
def GateClipUptoCardSaid : Prop := Claim7.holds Tryd.pinned (.plain (OpenSpec.upto gateClipSpec)) gateClipUptoCard

/-- THE SECOND FORM's CARD OF 'jalousielaw18.GateKnown'. -/
def gateKnownUptoCard : Claim7 := { stood := { row := gateKnownUptoRow, standIns := [], harness := (true, "a62e1668b956327993885656dee1e302f0d44fe466df980a01b216d2bc2144b2"), looks := false }, kinds := [], alts := [], laidByText := true, laidKinds := [.data, .pinned], laidTests := true, laidLooks := .later }
def GateKnownUptoCardSaid : Prop := Claim7.holds Tryd.pinned (.plain (OpenSpec.upto gateKnownSpec)) gateKnownUptoCard

/-- THE SECOND FORM's CARD OF 'jalousielaw18.GateStreams'. -/
def gateStreamsUptoCard : Claim7 := { stood := { row := gateStreamsUptoRow, standIns := [], harness := (true, "a62e1668b956327993885656dee1e302f0d44fe466df980a01b216d2bc2144b2"), looks := false }, kinds := [], alts := [], laidByText := true, laidKinds := [.data, .pinned], laidTests := true, laidLooks := .later }
def GateStreamsUptoCardSaid : Prop := Claim7.holds Tryd.pinned (.plain (OpenSpec.upto gateStreamsSpec)) gateStreamsUptoCard

/-- THE SECOND FORM's CARD OF 'jalousielaw18.GateTexts'. -/
def gateTextsUptoCard : Claim7 := { stood := { row := gateTextsUptoRow, standIns := [], harness := (true, "a62e1668b956327993885656dee1e302f0d44fe466df980a01b216d2bc2144b2"), looks := false }, kinds := [], alts := [], laidByText := true, laidKinds := [.data, .pinned], laidTests := true, laidLooks := .later }
def GateTextsUptoCardSaid : Prop := Claim7.holds Tryd.pinned (.plain (OpenSpec.upto gateTextsSpec)) gateTextsUptoCard
end Rows
end Go.Proofs.YtggkbkbhegcbkaaDoor

/-
  DERIVED. GIVEN WITH THE SEED: THE CARDS: each row of YtbkhjpclnfljbaaDoorRows.lean that lists a variable, with what it lists TIED to the program's text (the seventh form; the later family's looks); each row that meets fmt, with fmt's text TOLD by the authors' own Lean function (tested against real Go, not proved from fmt's source: count such statements apart). THE CARD IS WHAT COUNTS. Prove the row's statement (the work); the ties are given (YtbkhjpclnfljbaaDoorTie.lean); close each card by the builder's one call (the guide's Derived/Test/ToyasCard.lean, 'card_holds'). Laid BY PROGRAM, IN A SANDBOX (cutbox-door.mjs). By AI agents, Wed Nov 11 2026. No macro, syntax, notation, axiom, sorry.
-/
import Derived.Test.YtbkhjpclnfljbaaDoorRows
import GoSem.ClaimSeven
namespace Go.Proofs.YtbkhjpclnfljbaaDoor
namespace Rows

/-- THE TIED CARD OF 'jalousielaw23.CopyFinds'. -/
def copyFindsCard : Claim7 := { stood := { row := copyFindsRow, standIns := [], harness := (true, "25b400264870768f20526198c1c5945ca0cf12f5ec3749b913b1c79a74d8c747"), looks := false }, kinds := [], alts := [], laidByText := true, laidKinds := [.data, .pinned], laidTests := true, laidLooks := .later }
def CopyFindsCardSaid : Prop := Claim7.holds Tryd.pinned (.plain (OpenSpec.ofChange copyFindsSpec)) copyFindsCard

/-- THE TIED CARD OF 'jalousielaw23.CopyBoth'. -/
def copyBothCard : Claim7 := { stood := { row := copyBothRow, standIns := [], harness := (true, "25b400264870768f20526198c1c5945ca0cf12f5ec3749b913b1c79a74d8c747"), looks := false }, kinds := [], alts := [], laidByText := true, laidKinds := [.data, .pinned], laidTests := true, laidLooks := .later }
def CopyBothCardSaid : Prop := Claim7.holds Tryd.pinned (.plain (OpenSpec.ofChange copyBothSpec)) copyBothCard

/-- THE TIED CARD OF 'jalousielaw23.CopyKnown'. -/
def copyKnownCard : Claim7 := { stood := { row := copyKnownRow, standIns := [], harness := (true, "25b400264870768f20526198c1c5945ca0cf12f5ec3749b913b1c79a74d8c747"), looks := false }, kinds := [], alts := [], laidByText := true, laidKinds := [.data, .pinned], laidTests := true, laidLooks := .later }
def CopyKnownCardSaid : Prop := Claim7.holds Tryd.pinned (.plain (OpenSpec.ofChange copyKnownSpec)) copyKnownCard

/-- THE TIED CARD OF 'jalousielaw23.CopyPlays'. -/
def copyPlaysCard : Claim7 := { stood := { row := copyPlaysRow, standIns := [], harness := (true, "25b400264870768f20526198c1c5945ca0cf12f5ec3749b913b1c79a74d8c747"), looks := false }, kinds := [], alts := [], laidByText := true, laidKinds := [.data, .pinned], laidTests := true, laidLooks := .later }
def CopyPlaysCardSaid : Prop := Claim7.holds Tryd.pinned (.plain (OpenSpec.ofChange copyPlaysSpec)) copyPlaysCard

/-- THE TIED CARD OF 'jalousielaw23.CopyNobody'. -/
def copyNobodyCard : Claim7 := { stood := { row := copyNobodyRow, standIns := [], harness := (true, "25b400264870768f20526198c1c5945ca0cf12f5ec3749b913b1c79a74d8c747"), looks := false }, kinds := [], alts := [], laidByText := true, laidKinds := [.data, .pinned], laidTests := true, laidLooks := .later }
def CopyNobodyCardSaid : Prop := Claim7.holds Tryd.pinned (.plain (OpenSpec.ofChange copyNobodySpec)) copyNobodyCard

/-- THE TIED CARD OF 'jalousielaw23.CopyStill'. -/
def copyStillCard : Claim7 := { stood := { row := copyStillRow, standIns := [], harness := (true, "25b400264870768f20526198c1c5945ca0cf12f5ec3749b913b1c79a74d8c747"), looks := false }, kinds := [], alts := [], laidByText := true, laidKinds := [.data, .pinned], laidTests := true, laidLooks := .later }
def CopyStillCardSaid : Prop := Claim7.holds Tryd.pinned (.plain (OpenSpec.ofChange copyStillSpec)) copyStillCard

/-- THE SECOND FORM's CARD OF 'jalousielaw23.CopyFinds'. -/
def copyFindsUptoCard : Claim7 := { stood := { row := copyFindsUptoRow, standIns := [], harness := (true, "25b400264870768f20526198c1c5945ca0cf12f5ec3749b913b1c79a74d8c747"), looks := false }, kinds := [], alts := [], laidByText := true, laidKinds := [.data, .pinned], laidTests := true, laidLooks := .later }
def CopyFindsUptoCardSaid : Prop := Claim7.holds Tryd.pinned (.plain (OpenSpec.upto copyFindsSpec)) copyFindsUptoCard

/-- THE SECOND FORM's CARD OF 'jalousielaw23.CopyBoth'. -/
def copyBothUptoCard : Claim7 := { stood := { row := copyBothUptoRow, standIns := [], harness := (true, "25b400264870768f20526198c1c5945ca0cf12f5ec3749b913b1c79a74d8c747"), looks := false }, kinds := [], alts := [], laidByText := true, laidKinds := [.data, .pinned], laidTests := true, laidLooks := .later }
def CopyBothUptoCardSaid : Prop := Claim7.holds Tryd.pinned (.plain (OpenSpec.upto copyBothSpec)) copyBothUptoCard

/-- THE SECOND FORM's CARD OF 'jalousielaw23.CopyKnown'. -/
def copyKnownUptoCard : Claim7 := { stood := { row := copyKnownUptoRow, standIns := [], harness := (true, "25b400264870768f20526198c1c5945ca0cf12f5ec3749b913b1c79a74d8c747"), looks := false }, kinds := [], alts := [], laidByText := true, laidKinds := [.data, .pinned], laidTests := true, laidLooks := .later }
def CopyKnownUptoCardSaid : Prop := Claim7.holds Tryd.pinned (.plain (OpenSpec.upto copyKnownSpec)) copyKnownUptoCard

/-- THE SECOND FORM's CARD OF 'jalousielaw23.CopyPlays'. -/
def copyPlaysUptoCard : Claim7 := { stood := { row := copyPlaysUptoRow, standIns := [], harness := (true, "25b400264870768f20526198c1c5945ca0cf12f5ec3749b913b1c79a74d8c747"), looks := false }, kinds := [], alts := [], laidByText := true, laidKinds := [.data, .pinned], laidTests := true, laidLooks := .later }
def CopyPlaysUptoCardSaid : Prop := Claim7.holds Tryd.pinned (.plain (OpenSpec.upto copyPlaysSpec)) copyPlaysUptoCard

/-- THE SECOND FORM's CARD OF 'jalousielaw23.CopyNobody'. -/
def copyNobodyUptoCard : Claim7 := { stood := { row := copyNobodyUptoRow, standIns := [], harness := (true, "25b400264870768f20526198c1c5945ca0cf12f5ec3749b913b1c79a74d8c747"), looks := false }, kinds := [], alts := [], laidByText := true, laidKinds := [.data, .pinned], laidTests := true, laidLooks := .later }
def CopyNobodyUptoCardSaid : Prop := Claim7.holds Tryd.pinned (.plain (OpenSpec.upto copyNobodySpec)) copyNobodyUptoCard

/-- THE SECOND FORM's CARD OF 'jalousielaw23.CopyStill'. -/
def copyStillUptoCard : Claim7 := { stood := { row := copyStillUptoRow, standIns := [], harness := (true, "25b400264870768f20526198c1c5945ca0cf12f5ec3749b913b1c79a74d8c747"), looks := false }, kinds := [], alts := [], laidByText := true, laidKinds := [.data, .pinned], laidTests := true, laidLooks := .later }
def CopyStillUptoCardSaid : Prop := Claim7.holds Tryd.pinned (.plain (OpenSpec.upto copyStillSpec)) copyStillUptoCard
end Rows
end Go.Proofs.YtbkhjpclnfljbaaDoor

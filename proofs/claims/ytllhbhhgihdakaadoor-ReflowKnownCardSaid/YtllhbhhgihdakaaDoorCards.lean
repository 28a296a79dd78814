/-
  DERIVED. GIVEN WITH THE SEED: THE CARDS: each row of YtllhbhhgihdakaaDoorRows.lean that lists a variable, with what it lists TIED to the program's text (the seventh form; the later family's looks); each row that meets fmt, with fmt's text TOLD by the authors' own Lean function (tested against real Go, not proved from fmt's source: count such statements apart). THE CARD IS WHAT COUNTS. Prove the row's statement (the work); the ties are given (YtllhbhhgihdakaaDoorTie.lean); close each card by the builder's one call (the guide's Derived/Test/ToyasCard.lean, 'card_holds'). Laid BY PROGRAM, IN A SANDBOX (cutbox-door.mjs). By AI agents, Wed Nov 11 2026. No macro, syntax, notation, axiom, sorry.
-/
import Derived.Test.YtllhbhhgihdakaaDoorRows
import GoSem.ClaimSeven
namespace Go.Proofs.YtllhbhhgihdakaaDoor
namespace Rows

/-- THE TIED CARD OF 'jalousielaw15.ReflowPlaces'. -/
def reflowPlacesCard : Claim7 := { stood := { row := reflowPlacesRow, standIns := [], harness := (true, "50c88c83b42bccd2c6858771dc8e893170547b146dba3081f555d48c8dec50d8"), looks := false }, kinds := [], alts := [], laidByText := true, laidKinds := [.data, .pinned], laidTests := true, laidLooks := .later }
def ReflowPlacesCardSaid : Prop := Claim7.holds Tryd.pinned (.plain (OpenSpec.ofChange reflowPlacesSpec)) reflowPlacesCard

/-- THE TIED CARD OF 'jalousielaw15.ReflowTwice'. -/
def reflowTwiceCard : Claim7 := { stood := { row := reflowTwiceRow, standIns := [], harness := (true, "50c88c83b42bccd2c6858771dc8e893170547b146dba3081f555d48c8dec50d8"), looks := false }, kinds := [], alts := [], laidByText := true, laidKinds := [.data, .pinned], laidTests := true, laidLooks := .later }
def ReflowTwiceCardSaid : Prop := Claim7.holds Tryd.pinned (.plain (OpenSpec.ofChange reflowTwiceSpec)) reflowTwiceCard

/-- THE TIED CARD OF 'jalousielaw15.ReflowWidth'. -/
def reflowWidthCard : Claim7 := { stood := { row := reflowWidthRow, standIns := [], harness := (true, "50c88c83b42bccd2c6858771dc8e893170547b146dba3081f555d48c8dec50d8"), looks := false }, kinds := [], alts := [], laidByText := true, laidKinds := [.data, .pinned], laidTests := true, laidLooks := .later }
def ReflowWidthCardSaid : Prop := Claim7.holds Tryd.pinned (.plain (OpenSpec.ofChange reflowWidthSpec)) reflowWidthCard

/-- THE TIED CARD OF 'jalousielaw15.ReflowKeeps'. -/
def reflowKeepsCard : Claim7 := { stood := { row := reflowKeepsRow, standIns := [], harness := (true, "50c88c83b42bccd2c6858771dc8e893170547b146dba3081f555d48c8dec50d8"), looks := false }, kinds := [], alts := [], laidByText := true, laidKinds := [.data, .pinned], laidTests := true, laidLooks := .later }
def ReflowKeepsCardSaid : Prop := Claim7.holds Tryd.pinned (.plain (OpenSpec.ofChange reflowKeepsSpec)) reflowKeepsCard

/-- THE TIED CARD OF 'jalousielaw15.ReflowKnown'. -/
def reflowKnownCard : Claim7 := { stood := { row := reflowKnownRow, standIns := [], harness := (true, "50c88c83b42bccd2c6858771dc8e893170547b146dba3081f555d48c8dec50d8"), looks := false }, kinds := [], alts := [], laidByText := true, laidKinds := [.data, .pinned], laidTests := true, laidLooks := .later }
def ReflowKnownCardSaid : Prop := Claim7.holds Tryd.pinned (.plain (OpenSpec.ofChange reflowKnownSpec)) reflowKnownCard

/-- THE SECOND FORM's CARD OF 'jalousielaw15.ReflowPlaces'. -/
def reflowPlacesUptoCard : Claim7 := { stood := { row := reflowPlacesUptoRow, standIns := [], harness := (true, "50c88c83b42bccd2c6858771dc8e893170547b146dba3081f555d48c8dec50d8"), looks := false }, kinds := [], alts := [], laidByText := true, laidKinds := [.data, .pinned], laidTests := true, laidLooks := .later }
def ReflowPlacesUptoCardSaid : Prop := Claim7.holds Tryd.pinned (.plain (OpenSpec.upto reflowPlacesSpec)) reflowPlacesUptoCard

/-- THE SECOND FORM's CARD OF 'jalousielaw15.ReflowTwice'. -/
def reflowTwiceUptoCard : Claim7 := { stood := { row := reflowTwiceUptoRow, standIns := [], harness := (true, "50c88c83b42bccd2c6858771dc8e893170547b146dba3081f555d48c8dec50d8"), looks := false }, kinds := [], alts := [], laidByText := true, laidKinds := [.data, .pinned], laidTests := true, laidLooks := .later }
def ReflowTwiceUptoCardSaid : Prop := Claim7.holds Tryd.pinned (.plain (OpenSpec.upto reflowTwiceSpec)) reflowTwiceUptoCard

/-- THE SECOND FORM's CARD OF 'jalousielaw15.ReflowWidth'. -/
def reflowWidthUptoCard : Claim7 := { stood := { row := reflowWidthUptoRow, standIns := [], harness := (true, "50c88c83b42bccd2c6858771dc8e893170547b146dba3081f555d48c8dec50d8"), looks := false }, kinds := [], alts := [], laidByText := true, laidKinds := [.data, .pinned], laidTests := true, laidLooks := .later }
def ReflowWidthUptoCardSaid : Prop := Claim7.holds Tryd.pinned (.plain (OpenSpec.upto reflowWidthSpec)) reflowWidthUptoCard

/-- THE SECOND FORM's CARD OF 'jalousielaw15.ReflowKeeps'. -/
def reflowKeepsUptoCard : Claim7 := { stood := { row := reflowKeepsUptoRow, standIns := [], harness := (true, "50c88c83b42bccd2c6858771dc8e893170547b146dba3081f555d48c8dec50d8"), looks := false }, kinds := [], alts := [], laidByText := true, laidKinds := [.data, .pinned], laidTests := true, laidLooks := .later }
def ReflowKeepsUptoCardSaid : Prop := Claim7.holds Tryd.pinned (.plain (OpenSpec.upto reflowKeepsSpec)) reflowKeepsUptoCard

/-- THE SECOND FORM's CARD OF 'jalousielaw15.ReflowKnown'. -/
def reflowKnownUptoCard : Claim7 := { stood := { row := reflowKnownUptoRow, standIns := [], harness := (true, "50c88c83b42bccd2c6858771dc8e893170547b146dba3081f555d48c8dec50d8"), looks := false }, kinds := [], alts := [], laidByText := true, laidKinds := [.data, .pinned], laidTests := true, laidLooks := .later }
def ReflowKnownUptoCardSaid : Prop := Claim7.holds Tryd.pinned (.plain (OpenSpec.upto reflowKnownSpec)) reflowKnownUptoCard
end Rows
end Go.Proofs.YtllhbhhgihdakaaDoor

/-
  DERIVED. GIVEN WITH THE SEED: THE CARDS: each row of YtkmhbkanbbcgnaaDoorRows.lean that lists a variable, with what it lists TIED to the program's text (the seventh form; the later family's looks); each row that meets fmt, with fmt's text TOLD by the authors' own Lean function (tested against real Go, not proved from fmt's source: count such statements apart). THE CARD IS WHAT COUNTS. Prove the row's statement (the work); the ties are given (YtkmhbkanbbcgnaaDoorTie.lean); close each card by the builder's one call (the guide's Derived/Test/ToyasCard.lean, 'card_holds'). Laid BY PROGRAM, IN A SANDBOX (cutbox-door.mjs). By AI agents, Wed Nov 11 2026. No macro, syntax, notation, axiom, sorry.
-/
import Derived.Test.YtkmhbkanbbcgnaaDoorRows
import GoSem.ClaimSeven
namespace Go.Proofs.YtkmhbkanbbcgnaaDoor
namespace Rows

/-- THE TIED CARD OF 'jalousielaw13.ScrollBack'. -/
def scrollBackCard : Claim7 := { stood := { row := scrollBackRow, standIns := [], harness := (true, "2f397d31483fb0f7d46ebc73394c8c235c1bf9d1aacc397ffa0daae3141f5253"), looks := false }, kinds := [], alts := [], laidByText := true, laidKinds := [.data, .pinned], laidTests := true, laidLooks := .later }
def ScrollBackCardSaid : Prop := Claim7.holds Tryd.pinned (.plain (OpenSpec.ofChange scrollBackSpec)) scrollBackCard

/-- THE TIED CARD OF 'jalousielaw13.ScrollApart'. -/
def scrollApartCard : Claim7 := { stood := { row := scrollApartRow, standIns := [], harness := (true, "2f397d31483fb0f7d46ebc73394c8c235c1bf9d1aacc397ffa0daae3141f5253"), looks := false }, kinds := [], alts := [], laidByText := true, laidKinds := [.data, .pinned], laidTests := true, laidLooks := .later }
def ScrollApartCardSaid : Prop := Claim7.holds Tryd.pinned (.plain (OpenSpec.ofChange scrollApartSpec)) scrollApartCard

/-- THE TIED CARD OF 'jalousielaw13.ScrollKnown'. -/
def scrollKnownCard : Claim7 := { stood := { row := scrollKnownRow, standIns := [], harness := (true, "2f397d31483fb0f7d46ebc73394c8c235c1bf9d1aacc397ffa0daae3141f5253"), looks := false }, kinds := [], alts := [], laidByText := true, laidKinds := [.data, .pinned], laidTests := true, laidLooks := .later }
def ScrollKnownCardSaid : Prop := Claim7.holds Tryd.pinned (.plain (OpenSpec.ofChange scrollKnownSpec)) scrollKnownCard

/-- THE SECOND FORM's CARD OF 'jalousielaw13.ScrollBack'. -/
def scrollBackUptoCard : Claim7 := { stood := { row := scrollBackUptoRow, standIns := [], harness := (true, "2f397d31483fb0f7d46ebc73394c8c235c1bf9d1aacc397ffa0daae3141f5253"), looks := false }, kinds := [], alts := [], laidByText := true, laidKinds := [.data, .pinned], laidTests := true, laidLooks := .later }
def ScrollBackUptoCardSaid : Prop := Claim7.holds Tryd.pinned (.plain (OpenSpec.upto scrollBackSpec)) scrollBackUptoCard

/-- THE SECOND FORM's CARD OF 'jalousielaw13.ScrollApart'. -/
def scrollApartUptoCard : Claim7 := { stood := { row := scrollApartUptoRow, standIns := [], harness := (true, "2f397d31483fb0f7d46ebc73394c8c235c1bf9d1aacc397ffa0daae3141f5253"), looks := false }, kinds := [], alts := [], laidByText := true, laidKinds := [.data, .pinned], laidTests := true, laidLooks := .later }
def ScrollApartUptoCardSaid : Prop := Claim7.holds Tryd.pinned (.plain (OpenSpec.upto scrollApartSpec)) scrollApartUptoCard

/-- THE SECOND FORM's CARD OF 'jalousielaw13.ScrollKnown'. -/
def scrollKnownUptoCard : Claim7 := { stood := { row := scrollKnownUptoRow, standIns := [], harness := (true, "2f397d31483fb0f7d46ebc73394c8c235c1bf9d1aacc397ffa0daae3141f5253"), looks := false }, kinds := [], alts := [], laidByText := true, laidKinds := [.data, .pinned], laidTests := true, laidLooks := .later }
def ScrollKnownUptoCardSaid : Prop := Claim7.holds Tryd.pinned (.plain (OpenSpec.upto scrollKnownSpec)) scrollKnownUptoCard
end Rows
end Go.Proofs.YtkmhbkanbbcgnaaDoor

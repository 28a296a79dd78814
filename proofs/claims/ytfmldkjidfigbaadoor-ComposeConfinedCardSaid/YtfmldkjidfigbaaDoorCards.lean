/-
  DERIVED. GIVEN WITH THE SEED: THE CARDS: each row of YtfmldkjidfigbaaDoorRows.lean that lists a variable, with what it lists TIED to the program's text (the seventh form; the later family's looks); each row that meets fmt, with fmt's text TOLD by the authors' own Lean function (tested against real Go, not proved from fmt's source: count such statements apart). THE CARD IS WHAT COUNTS. Prove the row's statement (the work); the ties are given (YtfmldkjidfigbaaDoorTie.lean); close each card by the builder's one call (the guide's Derived/Test/ToyasCard.lean, 'card_holds'). Laid BY PROGRAM, IN A SANDBOX (cutbox-door.mjs). By AI agents, Wed Nov 11 2026. No macro, syntax, notation, axiom, sorry.
-/
import Derived.Test.YtfmldkjidfigbaaDoorRows
import GoSem.ClaimSeven
namespace Go.Proofs.YtfmldkjidfigbaaDoor
namespace Rows

/-- THE TIED CARD OF 'jalousielaw25.ComposeKnown'. -/
def composeKnownCard : Claim7 := { stood := { row := composeKnownRow, standIns := [], harness := (true, "77bd9fcdb726fa91f8b33131a2eaf99c69ffa78115c2d4036d3dfae1fd12e9b8"), looks := false }, kinds := [], alts := [], laidByText := true, laidKinds := [.data], laidTests := true, laidLooks := .later }
def ComposeKnownCardSaid : Prop := Claim7.holds Tryd.pinned (.plain (OpenSpec.ofChange composeKnownSpec)) composeKnownCard

/-- THE TIED CARD OF 'jalousielaw25.ComposeTidies'. -/
def composeTidiesCard : Claim7 := { stood := { row := composeTidiesRow, standIns := [], harness := (true, "77bd9fcdb726fa91f8b33131a2eaf99c69ffa78115c2d4036d3dfae1fd12e9b8"), looks := false }, kinds := [], alts := [], laidByText := true, laidKinds := [.data], laidTests := true, laidLooks := .later }
def ComposeTidiesCardSaid : Prop := Claim7.holds Tryd.pinned (.plain (OpenSpec.ofChange composeTidiesSpec)) composeTidiesCard

/-- THE TIED CARD OF 'jalousielaw25.ComposeConfined'. -/
def composeConfinedCard : Claim7 := { stood := { row := composeConfinedRow, standIns := [], harness := (true, "77bd9fcdb726fa91f8b33131a2eaf99c69ffa78115c2d4036d3dfae1fd12e9b8"), looks := false }, kinds := [], alts := [], laidByText := true, laidKinds := [.data], laidTests := true, laidLooks := .later }
def ComposeConfinedCardSaid : Prop := Claim7.holds Tryd.pinned (.plain (OpenSpec.ofChange composeConfinedSpec)) composeConfinedCard

/-- THE TIED CARD OF 'jalousielaw25.ComposeBanner'. -/
def composeBannerCard : Claim7 := { stood := { row := composeBannerRow, standIns := [], harness := (true, "77bd9fcdb726fa91f8b33131a2eaf99c69ffa78115c2d4036d3dfae1fd12e9b8"), looks := false }, kinds := [], alts := [], laidByText := true, laidKinds := [.data], laidTests := true, laidLooks := .later }
def ComposeBannerCardSaid : Prop := Claim7.holds Tryd.pinned (.plain (OpenSpec.ofChange composeBannerSpec)) composeBannerCard

/-- THE SECOND FORM's CARD OF 'jalousielaw25.ComposeKnown'. -/
def composeKnownUptoCard : Claim7 := { stood := { row := composeKnownUptoRow, standIns := [], harness := (true, "77bd9fcdb726fa91f8b33131a2eaf99c69ffa78115c2d4036d3dfae1fd12e9b8"), looks := false }, kinds := [], alts := [], laidByText := true, laidKinds := [.data], laidTests := true, laidLooks := .later }
def ComposeKnownUptoCardSaid : Prop := Claim7.holds Tryd.pinned (.plain (OpenSpec.upto composeKnownSpec)) composeKnownUptoCard

/-- THE SECOND FORM's CARD OF 'jalousielaw25.ComposeTidies'. -/
def composeTidiesUptoCard : Claim7 := { stood := { row := composeTidiesUptoRow, standIns := [], harness := (true, "77bd9fcdb726fa91f8b33131a2eaf99c69ffa78115c2d4036d3dfae1fd12e9b8"), looks := false }, kinds := [], alts := [], laidByText := true, laidKinds := [.data], laidTests := true, laidLooks := .later }
def ComposeTidiesUptoCardSaid : Prop := Claim7.holds Tryd.pinned (.plain (OpenSpec.upto composeTidiesSpec)) composeTidiesUptoCard

/-- THE SECOND FORM's CARD OF 'jalousielaw25.ComposeConfined'. -/
def composeConfinedUptoCard : Claim7 := { stood := { row := composeConfinedUptoRow, standIns := [], harness := (true, "77bd9fcdb726fa91f8b33131a2eaf99c69ffa78115c2d4036d3dfae1fd12e9b8"), looks := false }, kinds := [], alts := [], laidByText := true, laidKinds := [.data], laidTests := true, laidLooks := .later }
def ComposeConfinedUptoCardSaid : Prop := Claim7.holds Tryd.pinned (.plain (OpenSpec.upto composeConfinedSpec)) composeConfinedUptoCard

/-- THE SECOND FORM's CARD OF 'jalousielaw25.ComposeBanner'. -/
def composeBannerUptoCard : Claim7 := { stood := { row := composeBannerUptoRow, standIns := [], harness := (true, "77bd9fcdb726fa91f8b33131a2eaf99c69ffa78115c2d4036d3dfae1fd12e9b8"), looks := false }, kinds := [], alts := [], laidByText := true, laidKinds := [.data], laidTests := true, laidLooks := .later }
def ComposeBannerUptoCardSaid : Prop := Claim7.holds Tryd.pinned (.plain (OpenSpec.upto composeBannerSpec)) composeBannerUptoCard
end Rows
end Go.Proofs.YtfmldkjidfigbaaDoor

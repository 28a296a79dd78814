/-
  NARROWER THAN 'FOR EVERY INPUT', by the rows' own cells (each row's printed sentence says how): ComposeKnown: laid · ComposeTidies: laid · ComposeConfined: laid · ComposeBanner: laid.
  DERIVED. THE GIVEN ROWS OF THIS SEAT. 4 by the template 'for every input the law returns true; each argument reads behind the call as it read before'; 0 by the template 'total and deterministic' (their statements: YtfmldkjidfigbaaDoorTotals.lean).
  GIVEN WITH THE SEED: the statements are not yours to turn. If you find one false, say at which input.
  Laid BY PROGRAM, IN A SANDBOX (cutbox-rows.mjs): the forced cells as the released guide's own fill.sh prints them over the translation 40b7485fd5a40af1… (all of the seat's roots in one cut). By AI agents, Wed Nov 11 2026. No macro, syntax, notation, axiom, sorry.
-/
import Derived.Test.YtfmldkjidfigbaaDoorChecked
import GoSem.Claim
import GoSem.ClaimJoined
import GoSem.ClaimMapViews
import Derived.JoinedTies
import Derived.KernelRfl
namespace Go.Proofs.YtfmldkjidfigbaaDoor
/- THE CELL 'sum', in the pinned program and in every row, IS THE sha256 OF THE DUMP (.gsa) THAT YtfmldkjidfigbaaDoorProg.lean LOADS. Nothing in Lean hashes anything: it is a label: what it is worth is what the hold of that sum in a sandbox is worth. -/
noncomputable def Tryd.pinned : Pinned := { name := "ytfmldkjidfigbaadoor", sum := "40b7485fd5a40af135136854535ca36fc7a5e6acc97528215b5983e2b0275d05", checked := Tryd.checked }
namespace Rows
def none {H : Type} : Left H := { results := [], args := [] }

/- WHAT THE LISTED PACKAGE-LEVEL VARIABLES READ AS WHEN THE CALL BEGINS. Each datum BY PROGRAM (the guide's laid-datum.mjs) off the statement by which the dump's own 'gosem.cut.vars' lays the variable. In a bare row this is a premise. The card (YtfmldkjidfigbaaDoorCards.lean) ties it to the program's text. -/
def laid_jalousie_width_bounds {H : Type} : DataW H := .agg [.agg [.lit (.int .i32 0), .lit (.int .i32 31)], .agg [.lit (.int .i32 127), .lit (.int .i32 159)], .agg [.lit (.int .i32 768), .lit (.int .i32 879)], .agg [.lit (.int .i32 1155), .lit (.int .i32 1161)], .agg [.lit (.int .i32 1425), .lit (.int .i32 1469)], .agg [.lit (.int .i32 1552), .lit (.int .i32 1562)], .agg [.lit (.int .i32 1611), .lit (.int .i32 1631)], .agg [.lit (.int .i32 4352), .lit (.int .i32 4447)], .agg [.lit (.int .i32 8203), .lit (.int .i32 8207)], .agg [.lit (.int .i32 8400), .lit (.int .i32 8447)], .agg [.lit (.int .i32 11904), .lit (.int .i32 12350)], .agg [.lit (.int .i32 12353), .lit (.int .i32 13311)], .agg [.lit (.int .i32 13312), .lit (.int .i32 19903)], .agg [.lit (.int .i32 19968), .lit (.int .i32 40959)], .agg [.lit (.int .i32 40960), .lit (.int .i32 42191)], .agg [.lit (.int .i32 44032), .lit (.int .i32 55203)], .agg [.lit (.int .i32 63744), .lit (.int .i32 64255)], .agg [.lit (.int .i32 65024), .lit (.int .i32 65039)], .agg [.lit (.int .i32 65056), .lit (.int .i32 65071)], .agg [.lit (.int .i32 65072), .lit (.int .i32 65135)], .agg [.lit (.int .i32 65280), .lit (.int .i32 65376)], .agg [.lit (.int .i32 65504), .lit (.int .i32 65510)], .agg [.lit (.int .i32 127744), .lit (.int .i32 128591)], .agg [.lit (.int .i32 129280), .lit (.int .i32 129535)], .agg [.lit (.int .i32 131072), .lit (.int .i32 262141)], .agg [.lit (.int .i32 917760), .lit (.int .i32 917999)]]

/-- 'jalousielaw25.ComposeKnown': WHATEVER THE INPUT: true; the input reads as it did. -/
def composeKnownSpec : ChangeSpec := { name := "composeKnown", fn := fun _ => fun
  | [] => { results := [.lit (.bool true)], args := [] }
  | _ => none }
def composeKnownRow : OpenClaim := { program := "ytfmldkjidfigbaadoor", sum := "40b7485fd5a40af135136854535ca36fc7a5e6acc97528215b5983e2b0275d05", func := "jalousie/jalousielaw25.ComposeKnown", spec := "composeKnown", named := ["jalousie/width.bounds"], apart := false, laid := [("jalousie/width.bounds", laid_jalousie_width_bounds)] }
def ComposeKnownSaid : Prop := composeKnownRow.holds Tryd.pinned (OpenSpec.ofChange composeKnownSpec)

/-- ITS FALSE NEIGHBOUR: 'it returns false'. Refute it at one input. -/
def composeKnownWrong : ChangeSpec := { name := "composeKnown", fn := fun _ => fun
  | [] => { results := [.lit (.bool false)], args := [] }
  | _ => none }
def ComposeKnownWrongFalsely : Prop := composeKnownRow.holds Tryd.pinned (OpenSpec.ofChange composeKnownWrong)

/-- 'jalousielaw25.ComposeTidies': WHATEVER THE INPUT: true; the input reads as it did. -/
def composeTidiesSpec : ChangeSpec := { name := "composeTidies", fn := fun _ => fun
  | [d] => { results := [.lit (.bool true)], args := [d] }
  | _ => none }
def composeTidiesRow : OpenClaim := { program := "ytfmldkjidfigbaadoor", sum := "40b7485fd5a40af135136854535ca36fc7a5e6acc97528215b5983e2b0275d05", func := "jalousie/jalousielaw25.ComposeTidies", spec := "composeTidies", named := ["jalousie/width.bounds"], apart := false, laid := [("jalousie/width.bounds", laid_jalousie_width_bounds)] }
def ComposeTidiesSaid : Prop := composeTidiesRow.holds Tryd.pinned (OpenSpec.ofChange composeTidiesSpec)

/-- ITS FALSE NEIGHBOUR: 'it returns false'. Refute it at one input. -/
def composeTidiesWrong : ChangeSpec := { name := "composeTidies", fn := fun _ => fun
  | [d] => { results := [.lit (.bool false)], args := [d] }
  | _ => none }
def ComposeTidiesWrongFalsely : Prop := composeTidiesRow.holds Tryd.pinned (OpenSpec.ofChange composeTidiesWrong)

/-- 'jalousielaw25.ComposeConfined': WHATEVER THE INPUT: true; the input reads as it did. -/
def composeConfinedSpec : ChangeSpec := { name := "composeConfined", fn := fun _ => fun
  | [d1, d2, d3] => { results := [.lit (.bool true)], args := [d1, d2, d3] }
  | _ => none }
def composeConfinedRow : OpenClaim := { program := "ytfmldkjidfigbaadoor", sum := "40b7485fd5a40af135136854535ca36fc7a5e6acc97528215b5983e2b0275d05", func := "jalousie/jalousielaw25.ComposeConfined", spec := "composeConfined", named := ["jalousie/width.bounds"], apart := false, laid := [("jalousie/width.bounds", laid_jalousie_width_bounds)] }
def ComposeConfinedSaid : Prop := composeConfinedRow.holds Tryd.pinned (OpenSpec.ofChange composeConfinedSpec)

/-- ITS FALSE NEIGHBOUR: 'it returns false'. Refute it at one input. -/
def composeConfinedWrong : ChangeSpec := { name := "composeConfined", fn := fun _ => fun
  | [d1, d2, d3] => { results := [.lit (.bool false)], args := [d1, d2, d3] }
  | _ => none }
def ComposeConfinedWrongFalsely : Prop := composeConfinedRow.holds Tryd.pinned (OpenSpec.ofChange composeConfinedWrong)

/-- 'jalousielaw25.ComposeBanner': WHATEVER THE INPUT: true; the input reads as it did. -/
def composeBannerSpec : ChangeSpec := { name := "composeBanner", fn := fun _ => fun
  | [d] => { results := [.lit (.bool true)], args := [d] }
  | _ => none }
def composeBannerRow : OpenClaim := { program := "ytfmldkjidfigbaadoor", sum := "40b7485fd5a40af135136854535ca36fc7a5e6acc97528215b5983e2b0275d05", func := "jalousie/jalousielaw25.ComposeBanner", spec := "composeBanner", named := ["jalousie/width.bounds"], apart := false, laid := [("jalousie/width.bounds", laid_jalousie_width_bounds)] }
def ComposeBannerSaid : Prop := composeBannerRow.holds Tryd.pinned (OpenSpec.ofChange composeBannerSpec)

/-- ITS FALSE NEIGHBOUR: 'it returns false'. Refute it at one input. -/
def composeBannerWrong : ChangeSpec := { name := "composeBanner", fn := fun _ => fun
  | [d] => { results := [.lit (.bool false)], args := [d] }
  | _ => none }
def ComposeBannerWrongFalsely : Prop := composeBannerRow.holds Tryd.pinned (OpenSpec.ofChange composeBannerWrong)

/- THE SECOND FORM. 'bulk': how many values and letters a reading holds, each counted each time it is reached (what is shared counts as often as it is met; a slice's spare places count too). A statement '..UptoSaid' is the law's where the arguments, and the package variables that the reading takes, are together of bulk at most 1048576: NARROWER than '..Said'. Prove '..Said' where nothing that the law and all that it calls make is longer than what came in: it says more and counts as full. Else prove '..UptoSaid'. A law counts once. -/
mutual
def uptoBulk {H : Type} : DataW H → Nat
  | .lit (.string bytes) => bytes.length + 1
  | .lit _ => 1
  | .nil => 1
  | .ptr d => uptoBulk d + 1
  | .slice elems spare => uptoBulkAll elems + uptoBulkAll spare + 1
  | .agg parts => uptoBulkAll parts + 1
  | .iface _ d => uptoBulk d + 1
  | .map entries => uptoBulkEntries entries + 1
  | .held _ => 1
def uptoBulkAll {H : Type} : List (DataW H) → Nat
  | [] => 0
  | d :: r => uptoBulk d + uptoBulkAll r
def uptoBulkEntries {H : Type} : List (Lit × DataW H) → Nat
  | [] => 0
  | x :: r => uptoBulkEntry x + uptoBulkEntries r
def uptoBulkEntry {H : Type} : Lit × DataW H → Nat
  | (.string bytes, d) => bytes.length + uptoBulk d + 1
  | (_, d) => uptoBulk d + 1
 end
def uptoSmall : (H : Type) → List (DataW H) → Bool := fun _ ds => decide (uptoBulkAll ds ≤ 1048576)
def OpenSpec.upto (s : _root_.Go.ChangeSpec) : _root_.Go.OpenSpec := { _root_.Go.OpenSpec.ofChange s with cond := some uptoSmall }

/-- 'jalousielaw25.ComposeKnown', WHERE WHAT IT READS IS OF BULK AT MOST 1048576: true; the input reads as it did. -/
def composeKnownUptoRow : OpenClaim := { program := "ytfmldkjidfigbaadoor", sum := "40b7485fd5a40af135136854535ca36fc7a5e6acc97528215b5983e2b0275d05", func := "jalousie/jalousielaw25.ComposeKnown", spec := "composeKnown", named := ["jalousie/width.bounds"], apart := false, laid := [("jalousie/width.bounds", laid_jalousie_width_bounds)], narrowed := true }
def ComposeKnownUptoSaid : Prop := composeKnownUptoRow.holds Tryd.pinned (OpenSpec.upto composeKnownSpec)

/-- 'jalousielaw25.ComposeTidies', WHERE WHAT IT READS IS OF BULK AT MOST 1048576: true; the input reads as it did. -/
def composeTidiesUptoRow : OpenClaim := { program := "ytfmldkjidfigbaadoor", sum := "40b7485fd5a40af135136854535ca36fc7a5e6acc97528215b5983e2b0275d05", func := "jalousie/jalousielaw25.ComposeTidies", spec := "composeTidies", named := ["jalousie/width.bounds"], apart := false, laid := [("jalousie/width.bounds", laid_jalousie_width_bounds)], narrowed := true }
def ComposeTidiesUptoSaid : Prop := composeTidiesUptoRow.holds Tryd.pinned (OpenSpec.upto composeTidiesSpec)

/-- 'jalousielaw25.ComposeConfined', WHERE WHAT IT READS IS OF BULK AT MOST 1048576: true; the input reads as it did. -/
def composeConfinedUptoRow : OpenClaim := { program := "ytfmldkjidfigbaadoor", sum := "40b7485fd5a40af135136854535ca36fc7a5e6acc97528215b5983e2b0275d05", func := "jalousie/jalousielaw25.ComposeConfined", spec := "composeConfined", named := ["jalousie/width.bounds"], apart := false, laid := [("jalousie/width.bounds", laid_jalousie_width_bounds)], narrowed := true }
def ComposeConfinedUptoSaid : Prop := composeConfinedUptoRow.holds Tryd.pinned (OpenSpec.upto composeConfinedSpec)

/-- 'jalousielaw25.ComposeBanner', WHERE WHAT IT READS IS OF BULK AT MOST 1048576: true; the input reads as it did. -/
def composeBannerUptoRow : OpenClaim := { program := "ytfmldkjidfigbaadoor", sum := "40b7485fd5a40af135136854535ca36fc7a5e6acc97528215b5983e2b0275d05", func := "jalousie/jalousielaw25.ComposeBanner", spec := "composeBanner", named := ["jalousie/width.bounds"], apart := false, laid := [("jalousie/width.bounds", laid_jalousie_width_bounds)], narrowed := true }
def ComposeBannerUptoSaid : Prop := composeBannerUptoRow.holds Tryd.pinned (OpenSpec.upto composeBannerSpec)

end Rows
end Go.Proofs.YtfmldkjidfigbaaDoor

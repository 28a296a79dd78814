/-
  NARROWER THAN 'FOR EVERY INPUT', by the rows' own cells (each row's printed sentence says how): GateNarrow: laid · GateClip: laid · GateKnown: laid · GateStreams: laid · GateTexts: laid.
  DERIVED. THE GIVEN ROWS OF THIS SEAT. 5 by the template 'for every input the law returns true; each argument reads behind the call as it read before'; 0 by the template 'total and deterministic' (their statements: YtggkbkbhegcbkaaDoorTotals.lean).
  GIVEN WITH THE SEED: the statements are not yours to turn. If you find one false, say at which input.
  Laid BY PROGRAM, IN A SANDBOX (cutbox-rows.mjs): the forced cells as the released guide's own fill.sh prints them over the translation 0b1f666d9d9a4e90… (all of the seat's roots in one cut). By AI agents, Wed Nov 11 2026. No macro, syntax, notation, axiom, sorry.
-/
import Derived.Test.YtggkbkbhegcbkaaDoorChecked
import GoSem.PinnedTables
import GoSem.Claim
import GoSem.ClaimJoined
import GoSem.ClaimMapViews
import Derived.JoinedTies
import Derived.KernelRfl
namespace Go.Proofs.YtggkbkbhegcbkaaDoor
/- THE CELL 'sum', in the pinned program and in every row, IS THE sha256 OF THE DUMP (.gsa) THAT YtggkbkbhegcbkaaDoorProg.lean LOADS. Nothing in Lean hashes anything: it is a label: what it is worth is what the hold of that sum in a sandbox is worth. -/
noncomputable def Tryd.pinned : Pinned := { name := "ytggkbkbhegcbkaadoor", sum := "0b1f666d9d9a4e90a1af078c4a9da82d306074a964aee77dffd81ec7fa8aad44", checked := Tryd.checked }
namespace Rows
def none {H : Type} : Left H := { results := [], args := [] }

/- WHAT THE LISTED PACKAGE-LEVEL VARIABLES READ AS WHEN THE CALL BEGINS. Each datum BY PROGRAM (the guide's laid-datum.mjs) off the statement by which the dump's own 'gosem.cut.vars' lays the variable. In a bare row this is a premise. The card (YtggkbkbhegcbkaaDoorCards.lean) ties it to the program's text. -/
def laid_unicode_utf8_acceptRanges {H : Type} : DataW H := .agg [.agg [.lit (.int .u8 128), .lit (.int .u8 191)], .agg [.lit (.int .u8 160), .lit (.int .u8 191)], .agg [.lit (.int .u8 128), .lit (.int .u8 159)], .agg [.lit (.int .u8 144), .lit (.int .u8 191)], .agg [.lit (.int .u8 128), .lit (.int .u8 143)], .agg [.lit (.int .u8 0), .lit (.int .u8 0)], .agg [.lit (.int .u8 0), .lit (.int .u8 0)], .agg [.lit (.int .u8 0), .lit (.int .u8 0)], .agg [.lit (.int .u8 0), .lit (.int .u8 0)], .agg [.lit (.int .u8 0), .lit (.int .u8 0)], .agg [.lit (.int .u8 0), .lit (.int .u8 0)], .agg [.lit (.int .u8 0), .lit (.int .u8 0)], .agg [.lit (.int .u8 0), .lit (.int .u8 0)], .agg [.lit (.int .u8 0), .lit (.int .u8 0)], .agg [.lit (.int .u8 0), .lit (.int .u8 0)], .agg [.lit (.int .u8 0), .lit (.int .u8 0)]]
/-- One of Go's own tables, pinned by name: the form's constant. -/
def laid_unicode_utf8_first : DataW Unit := Go.Pinned.utf8First

/-- 'jalousielaw18.GateNarrow': WHATEVER THE INPUT: true; the input reads as it did. -/
def gateNarrowSpec : ChangeSpec := { name := "gateNarrow", fn := fun _ => fun
  | [d] => { results := [.lit (.bool true)], args := [d] }
  | _ => none }
def gateNarrowRow : OpenClaim := { program := "ytggkbkbhegcbkaadoor", sum := "0b1f666d9d9a4e90a1af078c4a9da82d306074a964aee77dffd81ec7fa8aad44", func := "jalousie/jalousielaw18.GateNarrow", spec := "gateNarrow", inPlace := ["internal/bytealg.IndexByteString", "internal/bytealg.IndexString"], unfollowed := true, recurses := true, named := ["unicode/utf8.first", "unicode/utf8.acceptRanges", "internal/bytealg.MaxLen"], apart := false, laid := [("unicode/utf8.acceptRanges", laid_unicode_utf8_acceptRanges), ("unicode/utf8.first", laid_unicode_utf8_first)] }
def GateNarrowSaid : Prop := gateNarrowRow.holds Tryd.pinned (OpenSpec.ofChange gateNarrowSpec)

/-- ITS FALSE NEIGHBOUR: 'it returns false'. Refute it at one input. -/
def gateNarrowWrong : ChangeSpec := { name := "gateNarrow", fn := fun _ => fun
  | [d] => { results := [.lit (.bool false)], args := [d] }
  | _ => none }
def GateNarrowWrongFalsely : Prop := gateNarrowRow.holds Tryd.pinned (OpenSpec.ofChange gateNarrowWrong)

/-- 'jalousielaw18.GateClip': WHATEVER THE INPUT: true; the input reads as it did. -/
def gateClipSpec : ChangeSpec := { name := "gateClip", fn := fun _ => fun
  | [d1, d2] => { results := [.lit (.bool true)], args := [d1, d2] }
  | _ => none }
def gateClipRow : OpenClaim := { program := "ytggkbkbhegcbkaadoor", sum := "0b1f666d9d9a4e90a1af078c4a9da82d306074a964aee77dffd81ec7fa8aad44", func := "jalousie/jalousielaw18.GateClip", spec := "gateClip", inPlace := ["internal/bytealg.IndexByteString", "internal/bytealg.IndexString"], unfollowed := true, recurses := true, named := ["unicode/utf8.first", "unicode/utf8.acceptRanges", "internal/bytealg.MaxLen"], apart := false, laid := [("unicode/utf8.acceptRanges", laid_unicode_utf8_acceptRanges), ("unicode/utf8.first", laid_unicode_utf8_first)] }
def GateClipSaid : Prop := gateClipRow.holds Tryd.pinned (OpenSpec.ofChange gateClipSpec)

/-- ITS FALSE NEIGHBOUR: 'it returns false'. Refute it at one input. -/
def gateClipWrong : ChangeSpec := { name := "gateClip", fn := fun _ => fun
  | [d1, d2] => { results := [.lit (.bool false)], args := [d1, d2] }
  | _ => none }
def GateClipWrongFalsely : Prop := gateClipRow.holds Tryd.pinned (OpenSpec.ofChange gateClipWrong)

/-- 'jalousielaw18.GateKnown': WHATEVER THE INPUT: true; the input reads as it did. -/
def gateKnownSpec : ChangeSpec := { name := "gateKnown", fn := fun _ => fun
  | [] => { results := [.lit (.bool true)], args := [] }
  | _ => none }
def gateKnownRow : OpenClaim := { program := "ytggkbkbhegcbkaadoor", sum := "0b1f666d9d9a4e90a1af078c4a9da82d306074a964aee77dffd81ec7fa8aad44", func := "jalousie/jalousielaw18.GateKnown", spec := "gateKnown", inPlace := ["internal/bytealg.IndexByteString", "internal/bytealg.IndexString"], unfollowed := true, recurses := true, named := ["internal/bytealg.MaxLen", "unicode/utf8.first", "unicode/utf8.acceptRanges"], apart := false, laid := [("unicode/utf8.acceptRanges", laid_unicode_utf8_acceptRanges), ("unicode/utf8.first", laid_unicode_utf8_first)] }
def GateKnownSaid : Prop := gateKnownRow.holds Tryd.pinned (OpenSpec.ofChange gateKnownSpec)

/-- ITS FALSE NEIGHBOUR: 'it returns false'. Refute it at one input. -/
def gateKnownWrong : ChangeSpec := { name := "gateKnown", fn := fun _ => fun
  | [] => { results := [.lit (.bool false)], args := [] }
  | _ => none }
def GateKnownWrongFalsely : Prop := gateKnownRow.holds Tryd.pinned (OpenSpec.ofChange gateKnownWrong)

/-- 'jalousielaw18.GateStreams': WHATEVER THE INPUT: true; the input reads as it did. -/
def gateStreamsSpec : ChangeSpec := { name := "gateStreams", fn := fun _ => fun
  | [d] => { results := [.lit (.bool true)], args := [d] }
  | _ => none }
def gateStreamsRow : OpenClaim := { program := "ytggkbkbhegcbkaadoor", sum := "0b1f666d9d9a4e90a1af078c4a9da82d306074a964aee77dffd81ec7fa8aad44", func := "jalousie/jalousielaw18.GateStreams", spec := "gateStreams", inPlace := ["internal/bytealg.IndexByteString", "internal/bytealg.IndexString"], unfollowed := true, recurses := true, named := ["unicode/utf8.first", "unicode/utf8.acceptRanges", "internal/bytealg.MaxLen"], apart := false, laid := [("unicode/utf8.acceptRanges", laid_unicode_utf8_acceptRanges), ("unicode/utf8.first", laid_unicode_utf8_first)] }
def GateStreamsSaid : Prop := gateStreamsRow.holds Tryd.pinned (OpenSpec.ofChange gateStreamsSpec)

/-- ITS FALSE NEIGHBOUR: 'it returns false'. Refute it at one input. -/
def gateStreamsWrong : ChangeSpec := { name := "gateStreams", fn := fun _ => fun
  | [d] => { results := [.lit (.bool false)], args := [d] }
  | _ => none }
def GateStreamsWrongFalsely : Prop := gateStreamsRow.holds Tryd.pinned (OpenSpec.ofChange gateStreamsWrong)

/-- 'jalousielaw18.GateTexts': WHATEVER THE INPUT: true; the input reads as it did. -/
def gateTextsSpec : ChangeSpec := { name := "gateTexts", fn := fun _ => fun
  | [d] => { results := [.lit (.bool true)], args := [d] }
  | _ => none }
def gateTextsRow : OpenClaim := { program := "ytggkbkbhegcbkaadoor", sum := "0b1f666d9d9a4e90a1af078c4a9da82d306074a964aee77dffd81ec7fa8aad44", func := "jalousie/jalousielaw18.GateTexts", spec := "gateTexts", inPlace := ["internal/bytealg.IndexByteString", "internal/bytealg.IndexString"], unfollowed := true, recurses := true, named := ["unicode/utf8.first", "unicode/utf8.acceptRanges", "internal/bytealg.MaxLen"], apart := false, laid := [("unicode/utf8.acceptRanges", laid_unicode_utf8_acceptRanges), ("unicode/utf8.first", laid_unicode_utf8_first)] }
def GateTextsSaid : Prop := gateTextsRow.holds Tryd.pinned (OpenSpec.ofChange gateTextsSpec)

/-- ITS FALSE NEIGHBOUR: 'it returns false'. Refute it at one input. -/
def gateTextsWrong : ChangeSpec := { name := "gateTexts", fn := fun _ => fun
  | [d] => { results := [.lit (.bool false)], args := [d] }
  | _ => none }
def GateTextsWrongFalsely : Prop := gateTextsRow.holds Tryd.pinned (OpenSpec.ofChange gateTextsWrong)

/- THE SECOND FORM. 'bulk': how many values and letters a reading holds, each counted each time it is reached (what is shared counts as often as it is met; a slice's spare places count too). A statement '..UptoSaid' is the law's where the arguments, and the package variables that the reading takes, are together of bulk at most 1048576: NARROWER than '..Said'. Prove '..Said' where nothing that the law and all that it calls make is longer than what came in: it says more and counts as full. Else prove '..UptoSaid'. A law counts once. -/
mutual
def uptoBulk {H : Type} : DataW H → Nat
  | .lit (.string bytes) => bytes.length + 1
  | .lit _ => 1
  | .nil => 1
  | .ptr d => uptoBulk d + 1
  | .slice elems spare => uptoBulkAll elems + uptoBulkAll spare + 1
  | .agg parts => uptoBulkAll parts + 1
  | .iface _ d => uptoBulk d + 1
  | .map entries => uptoBulkEntries entries + 1
  | .held _ => 1
def uptoBulkAll {H : Type} : List (DataW H) → Nat
  | [] => 0
  | d :: r => uptoBulk d + uptoBulkAll r
def uptoBulkEntries {H : Type} : List (Lit × DataW H) → Nat
  | [] => 0
  | x :: r => uptoBulkEntry x + uptoBulkEntries r
def uptoBulkEntry {H : Type} : Lit × DataW H → Nat
  | (.string bytes, d) => bytes.length + uptoBulk d + 1
  | (_, d) => uptoBulk d + 1
 end
def uptoSmall : (H : Type) → List (DataW H) → Bool := fun _ ds => decide (uptoBulkAll ds ≤ 1048576)
def OpenSpec.upto (s : _root_.Go.ChangeSpec) : _root_.Go.OpenSpec := { _root_.Go.OpenSpec.ofChange s with cond := some uptoSmall }

/-- 'jalousielaw18.GateNarrow', WHERE WHAT IT READS IS OF BULK AT MOST 1048576: true; the input reads as it did. -/
def gateNarrowUptoRow : OpenClaim := { program := "ytggkbkbhegcbkaadoor", sum := "0b1f666d9d9a4e90a1af078c4a9da82d306074a964aee77dffd81ec7fa8aad44", func := "jalousie/jalousielaw18.GateNarrow", spec := "gateNarrow", inPlace := ["internal/bytealg.IndexByteString", "internal/bytealg.IndexString"], unfollowed := true, recurses := true, named := ["unicode/utf8.first", "unicode/utf8.acceptRanges", "internal/bytealg.MaxLen"], apart := false, laid := [("unicode/utf8.acceptRanges", laid_unicode_utf8_acceptRanges), ("unicode/utf8.first", laid_unicode_utf8_first)], narrowed := true }
def GateNarrowUptoSaid : Prop := gateNarrowUptoRow.holds Tryd.pinned (OpenSpec.upto gateNarrowSpec)

/-- 'jalousielaw18.GateClip', WHERE WHAT IT READS IS OF BULK AT MOST 1048576: true; the input reads as it did. -/
def gateClipUptoRow : OpenClaim := { program := "ytggkbkbhegcbkaadoor", sum := "0b1f666d9d9a4e90a1af078c4a9da82d306074a964aee77dffd81ec7fa8aad44", func := "jalousie/jalousielaw18.GateClip", spec := "gateClip", inPlace := ["internal/bytealg.IndexByteString", "internal/bytealg.IndexString"], unfollowed := true, recurses := true, named := ["unicode/utf8.first", "unicode/utf8.acceptRanges", "internal/bytealg.MaxLen"], apart := false, laid := [("unicode/utf8.acceptRanges", laid_unicode_utf8_acceptRanges), ("unicode/utf8.first", laid_unicode_utf8_first)], narrowed := true }
def GateClipUptoSaid : Prop := gateClipUptoRow.holds Tryd.pinned (OpenSpec.upto gateClipSpec)

/-- 'jalousielaw18.GateKnown', WHERE WHAT IT READS IS OF BULK AT MOST 1048576: true; the input reads as it did. -/
def gateKnownUptoRow : OpenClaim := { program := "ytggkbkbhegcbkaadoor", sum := "0b1f666d9d9a4e90a1af078c4a9da82d306074a964aee77dffd81ec7fa8aad44", func := "jalousie/jalousielaw18.GateKnown", spec := "gateKnown", inPlace := ["internal/bytealg.IndexByteString", "internal/bytealg.IndexString"], unfollowed := true, recurses := true, named := ["internal/bytealg.MaxLen", "unicode/utf8.first", "unicode/utf8.acceptRanges"], apart := false, laid := [("unicode/utf8.acceptRanges", laid_unicode_utf8_acceptRanges), ("unicode/utf8.first", laid_unicode_utf8_first)], narrowed := true }
def GateKnownUptoSaid : Prop := gateKnownUptoRow.holds Tryd.pinned (OpenSpec.upto gateKnownSpec)

/-- 'jalousielaw18.GateStreams', WHERE WHAT IT READS IS OF BULK AT MOST 1048576: true; the input reads as it did. -/
def gateStreamsUptoRow : OpenClaim := { program := "ytggkbkbhegcbkaadoor", sum := "0b1f666d9d9a4e90a1af078c4a9da82d306074a964aee77dffd81ec7fa8aad44", func := "jalousie/jalousielaw18.GateStreams", spec := "gateStreams", inPlace := ["internal/bytealg.IndexByteString", "internal/bytealg.IndexString"], unfollowed := true, recurses := true, named := ["unicode/utf8.first", "unicode/utf8.acceptRanges", "internal/bytealg.MaxLen"], apart := false, laid := [("unicode/utf8.acceptRanges", laid_unicode_utf8_acceptRanges), ("unicode/utf8.first", laid_unicode_utf8_first)], narrowed := true }
def GateStreamsUptoSaid : Prop := gateStreamsUptoRow.holds Tryd.pinned (OpenSpec.upto gateStreamsSpec)

/-- 'jalousielaw18.GateTexts', WHERE WHAT IT READS IS OF BULK AT MOST 1048576: true; the input reads as it did. -/
def gateTextsUptoRow : OpenClaim := { program := "ytggkbkbhegcbkaadoor", sum := "0b1f666d9d9a4e90a1af078c4a9da82d306074a964aee77dffd81ec7fa8aad44", func := "jalousie/jalousielaw18.GateTexts", spec := "gateTexts", inPlace := ["internal/bytealg.IndexByteString", "internal/bytealg.IndexString"], unfollowed := true, recurses := true, named := ["unicode/utf8.first", "unicode/utf8.acceptRanges", "internal/bytealg.MaxLen"], apart := false, laid := [("unicode/utf8.acceptRanges", laid_unicode_utf8_acceptRanges), ("unicode/utf8.first", laid_unicode_utf8_first)], narrowed := true }
def GateTextsUptoSaid : Prop := gateTextsUptoRow.holds Tryd.pinned (OpenSpec.upto gateTextsSpec)

end Rows
end Go.Proofs.YtggkbkbhegcbkaaDoor

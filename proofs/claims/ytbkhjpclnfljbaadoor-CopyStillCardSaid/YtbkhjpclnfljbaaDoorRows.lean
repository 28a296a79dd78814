/-
  NARROWER THAN 'FOR EVERY INPUT', by the rows' own cells (each row's printed sentence says how): CopyFinds: laid · CopyBoth: laid · CopyKnown: laid · CopyPlays: laid · CopyNobody: laid · CopyStill: laid.
  DERIVED. THE GIVEN ROWS OF THIS SEAT. 6 by the template 'for every input the law returns true; each argument reads behind the call as it read before'; 0 by the template 'total and deterministic' (their statements: YtbkhjpclnfljbaaDoorTotals.lean).
  GIVEN WITH THE SEED: the statements are not yours to turn. If you find one false, say at which input.
  Laid BY PROGRAM, IN A SANDBOX (cutbox-rows.mjs): the forced cells as the released guide's own fill.sh prints them over the translation 5e8fc51bd44cc793… (all of the seat's roots in one cut). By AI agents, Wed Nov 11 2026. No macro, syntax, notation, axiom, sorry.
-/
import Derived.Test.YtbkhjpclnfljbaaDoorChecked
import GoSem.PinnedTables
import GoSem.Claim
import GoSem.ClaimJoined
import GoSem.ClaimMapViews
import Derived.JoinedTies
import Derived.KernelRfl
namespace Go.Proofs.YtbkhjpclnfljbaaDoor
/- THE CELL 'sum', in the pinned program and in every row, IS THE sha256 OF THE DUMP (.gsa) THAT YtbkhjpclnfljbaaDoorProg.lean LOADS. Nothing in Lean hashes anything: it is a label: what it is worth is what the hold of that sum in a sandbox is worth. -/
noncomputable def Tryd.pinned : Pinned := { name := "ytbkhjpclnfljbaadoor", sum := "5e8fc51bd44cc79304eff9194168567fa1aa47250b69f2c8cc908466b36f867b", checked := Tryd.checked }
namespace Rows
def none {H : Type} : Left H := { results := [], args := [] }

/- WHAT THE LISTED PACKAGE-LEVEL VARIABLES READ AS WHEN THE CALL BEGINS. Each datum BY PROGRAM (the guide's laid-datum.mjs) off the statement by which the dump's own 'gosem.cut.vars' lays the variable. In a bare row this is a premise. The card (YtbkhjpclnfljbaaDoorCards.lean) ties it to the program's text. -/
def laid_unicode_utf8_acceptRanges {H : Type} : DataW H := .agg [.agg [.lit (.int .u8 128), .lit (.int .u8 191)], .agg [.lit (.int .u8 160), .lit (.int .u8 191)], .agg [.lit (.int .u8 128), .lit (.int .u8 159)], .agg [.lit (.int .u8 144), .lit (.int .u8 191)], .agg [.lit (.int .u8 128), .lit (.int .u8 143)], .agg [.lit (.int .u8 0), .lit (.int .u8 0)], .agg [.lit (.int .u8 0), .lit (.int .u8 0)], .agg [.lit (.int .u8 0), .lit (.int .u8 0)], .agg [.lit (.int .u8 0), .lit (.int .u8 0)], .agg [.lit (.int .u8 0), .lit (.int .u8 0)], .agg [.lit (.int .u8 0), .lit (.int .u8 0)], .agg [.lit (.int .u8 0), .lit (.int .u8 0)], .agg [.lit (.int .u8 0), .lit (.int .u8 0)], .agg [.lit (.int .u8 0), .lit (.int .u8 0)], .agg [.lit (.int .u8 0), .lit (.int .u8 0)], .agg [.lit (.int .u8 0), .lit (.int .u8 0)]]
/-- One of Go's own tables, pinned by name: the form's constant. -/
def laid_unicode_utf8_first : DataW Unit := Go.Pinned.utf8First

/-- 'jalousielaw23.CopyFinds': WHATEVER THE INPUT: true; the input reads as it did. -/
def copyFindsSpec : ChangeSpec := { name := "copyFinds", fn := fun _ => fun
  | [d1, d2, d3, d4, d5] => { results := [.lit (.bool true)], args := [d1, d2, d3, d4, d5] }
  | _ => none }
def copyFindsRow : OpenClaim := { program := "ytbkhjpclnfljbaadoor", sum := "5e8fc51bd44cc79304eff9194168567fa1aa47250b69f2c8cc908466b36f867b", func := "jalousie/jalousielaw23.CopyFinds", spec := "copyFinds", inPlace := ["internal/abi.NoEscape", "internal/bytealg.IndexByteString", "internal/bytealg.IndexString"], unfollowed := true, recurses := true, named := ["unicode/utf8.first", "unicode/utf8.acceptRanges", "internal/bytealg.MaxLen"], apart := false, laid := [("unicode/utf8.acceptRanges", laid_unicode_utf8_acceptRanges), ("unicode/utf8.first", laid_unicode_utf8_first)] }
def CopyFindsSaid : Prop := copyFindsRow.holds Tryd.pinned (OpenSpec.ofChange copyFindsSpec)

/-- ITS FALSE NEIGHBOUR: 'it returns false'. Refute it at one input. -/
def copyFindsWrong : ChangeSpec := { name := "copyFinds", fn := fun _ => fun
  | [d1, d2, d3, d4, d5] => { results := [.lit (.bool false)], args := [d1, d2, d3, d4, d5] }
  | _ => none }
def CopyFindsWrongFalsely : Prop := copyFindsRow.holds Tryd.pinned (OpenSpec.ofChange copyFindsWrong)

/-- 'jalousielaw23.CopyBoth': WHATEVER THE INPUT: true; the input reads as it did. -/
def copyBothSpec : ChangeSpec := { name := "copyBoth", fn := fun _ => fun
  | [d1, d2, d3, d4, d5, d6] => { results := [.lit (.bool true)], args := [d1, d2, d3, d4, d5, d6] }
  | _ => none }
def copyBothRow : OpenClaim := { program := "ytbkhjpclnfljbaadoor", sum := "5e8fc51bd44cc79304eff9194168567fa1aa47250b69f2c8cc908466b36f867b", func := "jalousie/jalousielaw23.CopyBoth", spec := "copyBoth", inPlace := ["internal/abi.NoEscape", "internal/bytealg.IndexByteString", "internal/bytealg.IndexString"], unfollowed := true, recurses := true, named := ["unicode/utf8.first", "unicode/utf8.acceptRanges", "internal/bytealg.MaxLen"], apart := false, laid := [("unicode/utf8.acceptRanges", laid_unicode_utf8_acceptRanges), ("unicode/utf8.first", laid_unicode_utf8_first)] }
def CopyBothSaid : Prop := copyBothRow.holds Tryd.pinned (OpenSpec.ofChange copyBothSpec)

/-- ITS FALSE NEIGHBOUR: 'it returns false'. Refute it at one input. -/
def copyBothWrong : ChangeSpec := { name := "copyBoth", fn := fun _ => fun
  | [d1, d2, d3, d4, d5, d6] => { results := [.lit (.bool false)], args := [d1, d2, d3, d4, d5, d6] }
  | _ => none }
def CopyBothWrongFalsely : Prop := copyBothRow.holds Tryd.pinned (OpenSpec.ofChange copyBothWrong)

/-- 'jalousielaw23.CopyKnown': WHATEVER THE INPUT: true; the input reads as it did. -/
def copyKnownSpec : ChangeSpec := { name := "copyKnown", fn := fun _ => fun
  | [] => { results := [.lit (.bool true)], args := [] }
  | _ => none }
def copyKnownRow : OpenClaim := { program := "ytbkhjpclnfljbaadoor", sum := "5e8fc51bd44cc79304eff9194168567fa1aa47250b69f2c8cc908466b36f867b", func := "jalousie/jalousielaw23.CopyKnown", spec := "copyKnown", inPlace := ["internal/abi.NoEscape", "internal/bytealg.IndexByteString", "internal/bytealg.IndexString"], unfollowed := true, recurses := true, named := ["unicode/utf8.first", "unicode/utf8.acceptRanges", "internal/bytealg.MaxLen"], apart := false, laid := [("unicode/utf8.acceptRanges", laid_unicode_utf8_acceptRanges), ("unicode/utf8.first", laid_unicode_utf8_first)] }
def CopyKnownSaid : Prop := copyKnownRow.holds Tryd.pinned (OpenSpec.ofChange copyKnownSpec)

/-- ITS FALSE NEIGHBOUR: 'it returns false'. Refute it at one input. -/
def copyKnownWrong : ChangeSpec := { name := "copyKnown", fn := fun _ => fun
  | [] => { results := [.lit (.bool false)], args := [] }
  | _ => none }
def CopyKnownWrongFalsely : Prop := copyKnownRow.holds Tryd.pinned (OpenSpec.ofChange copyKnownWrong)

/-- 'jalousielaw23.CopyPlays': WHATEVER THE INPUT: true; the input reads as it did. -/
def copyPlaysSpec : ChangeSpec := { name := "copyPlays", fn := fun _ => fun
  | [d1, d2, d3] => { results := [.lit (.bool true)], args := [d1, d2, d3] }
  | _ => none }
def copyPlaysRow : OpenClaim := { program := "ytbkhjpclnfljbaadoor", sum := "5e8fc51bd44cc79304eff9194168567fa1aa47250b69f2c8cc908466b36f867b", func := "jalousie/jalousielaw23.CopyPlays", spec := "copyPlays", inPlace := ["internal/abi.NoEscape", "internal/bytealg.IndexByteString", "internal/bytealg.IndexString"], unfollowed := true, recurses := true, named := ["unicode/utf8.first", "unicode/utf8.acceptRanges", "internal/bytealg.MaxLen"], apart := false, laid := [("unicode/utf8.acceptRanges", laid_unicode_utf8_acceptRanges), ("unicode/utf8.first", laid_unicode_utf8_first)] }
def CopyPlaysSaid : Prop := copyPlaysRow.holds Tryd.pinned (OpenSpec.ofChange copyPlaysSpec)

/-- ITS FALSE NEIGHBOUR: 'it returns false'. Refute it at one input. -/
def copyPlaysWrong : ChangeSpec := { name := "copyPlays", fn := fun _ => fun
  | [d1, d2, d3] => { results := [.lit (.bool false)], args := [d1, d2, d3] }
  | _ => none }
def CopyPlaysWrongFalsely : Prop := copyPlaysRow.holds Tryd.pinned (OpenSpec.ofChange copyPlaysWrong)

/-- 'jalousielaw23.CopyNobody': WHATEVER THE INPUT: true; the input reads as it did. -/
def copyNobodySpec : ChangeSpec := { name := "copyNobody", fn := fun _ => fun
  | [d] => { results := [.lit (.bool true)], args := [d] }
  | _ => none }
def copyNobodyRow : OpenClaim := { program := "ytbkhjpclnfljbaadoor", sum := "5e8fc51bd44cc79304eff9194168567fa1aa47250b69f2c8cc908466b36f867b", func := "jalousie/jalousielaw23.CopyNobody", spec := "copyNobody", inPlace := ["internal/abi.NoEscape", "internal/bytealg.IndexByteString", "internal/bytealg.IndexString"], unfollowed := true, recurses := true, named := ["unicode/utf8.first", "unicode/utf8.acceptRanges", "internal/bytealg.MaxLen"], apart := false, laid := [("unicode/utf8.acceptRanges", laid_unicode_utf8_acceptRanges), ("unicode/utf8.first", laid_unicode_utf8_first)] }
def CopyNobodySaid : Prop := copyNobodyRow.holds Tryd.pinned (OpenSpec.ofChange copyNobodySpec)

/-- ITS FALSE NEIGHBOUR: 'it returns false'. Refute it at one input. -/
def copyNobodyWrong : ChangeSpec := { name := "copyNobody", fn := fun _ => fun
  | [d] => { results := [.lit (.bool false)], args := [d] }
  | _ => none }
def CopyNobodyWrongFalsely : Prop := copyNobodyRow.holds Tryd.pinned (OpenSpec.ofChange copyNobodyWrong)

/-- 'jalousielaw23.CopyStill': WHATEVER THE INPUT: true; the input reads as it did. -/
def copyStillSpec : ChangeSpec := { name := "copyStill", fn := fun _ => fun
  | [d1, d2, d3] => { results := [.lit (.bool true)], args := [d1, d2, d3] }
  | _ => none }
def copyStillRow : OpenClaim := { program := "ytbkhjpclnfljbaadoor", sum := "5e8fc51bd44cc79304eff9194168567fa1aa47250b69f2c8cc908466b36f867b", func := "jalousie/jalousielaw23.CopyStill", spec := "copyStill", inPlace := ["internal/abi.NoEscape", "internal/bytealg.IndexByteString", "internal/bytealg.IndexString"], unfollowed := true, recurses := true, named := ["unicode/utf8.first", "unicode/utf8.acceptRanges", "internal/bytealg.MaxLen"], apart := false, laid := [("unicode/utf8.acceptRanges", laid_unicode_utf8_acceptRanges), ("unicode/utf8.first", laid_unicode_utf8_first)] }
def CopyStillSaid : Prop := copyStillRow.holds Tryd.pinned (OpenSpec.ofChange copyStillSpec)

/-- ITS FALSE NEIGHBOUR: 'it returns false'. Refute it at one input. -/
def copyStillWrong : ChangeSpec := { name := "copyStill", fn := fun _ => fun
  | [d1, d2, d3] => { results := [.lit (.bool false)], args := [d1, d2, d3] }
  | _ => none }
def CopyStillWrongFalsely : Prop := copyStillRow.holds Tryd.pinned (OpenSpec.ofChange copyStillWrong)

/- THE SECOND FORM. 'bulk': how many values and letters a reading holds, each counted each time it is reached (what is shared counts as often as it is met; a slice's spare places count too). A statement '..UptoSaid' is the law's where the arguments, and the package variables that the reading takes, are together of bulk at most 1048576: NARROWER than '..Said'. Prove '..Said' where nothing that the law and all that it calls make is longer than what came in: it says more and counts as full. Else prove '..UptoSaid'. A law counts once. -/
mutual
def uptoBulk {H : Type} : DataW H → Nat
  | .lit (.string bytes) => bytes.length + 1
  | .lit _ => 1
  | .nil => 1
  | .ptr d => uptoBulk d + 1
  | .slice elems spare => uptoBulkAll elems + uptoBulkAll spare + 1
  | .agg parts => uptoBulkAll parts + 1
  | .iface _ d => uptoBulk d + 1
  | .map entries => uptoBulkEntries entries + 1
  | .held _ => 1
def uptoBulkAll {H : Type} : List (DataW H) → Nat
  | [] => 0
  | d :: r => uptoBulk d + uptoBulkAll r
def uptoBulkEntries {H : Type} : List (Lit × DataW H) → Nat
  | [] => 0
  | x :: r => uptoBulkEntry x + uptoBulkEntries r
def uptoBulkEntry {H : Type} : Lit × DataW H → Nat
  | (.string bytes, d) => bytes.length + uptoBulk d + 1
  | (_, d) => uptoBulk d + 1
 end
def uptoSmall : (H : Type) → List (DataW H) → Bool := fun _ ds => decide (uptoBulkAll ds ≤ 1048576)
def OpenSpec.upto (s : _root_.Go.ChangeSpec) : _root_.Go.OpenSpec := { _root_.Go.OpenSpec.ofChange s with cond := some uptoSmall }

/-- 'jalousielaw23.CopyFinds', WHERE WHAT IT READS IS OF BULK AT MOST 1048576: true; the input reads as it did. -/
def copyFindsUptoRow : OpenClaim := { program := "ytbkhjpclnfljbaadoor", sum := "5e8fc51bd44cc79304eff9194168567fa1aa47250b69f2c8cc908466b36f867b", func := "jalousie/jalousielaw23.CopyFinds", spec := "copyFinds", inPlace := ["internal/abi.NoEscape", "internal/bytealg.IndexByteString", "internal/bytealg.IndexString"], unfollowed := true, recurses := true, named := ["unicode/utf8.first", "unicode/utf8.acceptRanges", "internal/bytealg.MaxLen"], apart := false, laid := [("unicode/utf8.acceptRanges", laid_unicode_utf8_acceptRanges), ("unicode/utf8.first", laid_unicode_utf8_first)], narrowed := true }
def CopyFindsUptoSaid : Prop := copyFindsUptoRow.holds Tryd.pinned (OpenSpec.upto copyFindsSpec)

/-- 'jalousielaw23.CopyBoth', WHERE WHAT IT READS IS OF BULK AT MOST 1048576: true; the input reads as it did. -/
def copyBothUptoRow : OpenClaim := { program := "ytbkhjpclnfljbaadoor", sum := "5e8fc51bd44cc79304eff9194168567fa1aa47250b69f2c8cc908466b36f867b", func := "jalousie/jalousielaw23.CopyBoth", spec := "copyBoth", inPlace := ["internal/abi.NoEscape", "internal/bytealg.IndexByteString", "internal/bytealg.IndexString"], unfollowed := true, recurses := true, named := ["unicode/utf8.first", "unicode/utf8.acceptRanges", "internal/bytealg.MaxLen"], apart := false, laid := [("unicode/utf8.acceptRanges", laid_unicode_utf8_acceptRanges), ("unicode/utf8.first", laid_unicode_utf8_first)], narrowed := true }
def CopyBothUptoSaid : Prop := copyBothUptoRow.holds Tryd.pinned (OpenSpec.upto copyBothSpec)

/-- 'jalousielaw23.CopyKnown', WHERE WHAT IT READS IS OF BULK AT MOST 1048576: true; the input reads as it did. -/
def copyKnownUptoRow : OpenClaim := { program := "ytbkhjpclnfljbaadoor", sum := "5e8fc51bd44cc79304eff9194168567fa1aa47250b69f2c8cc908466b36f867b", func := "jalousie/jalousielaw23.CopyKnown", spec := "copyKnown", inPlace := ["internal/abi.NoEscape", "internal/bytealg.IndexByteString", "internal/bytealg.IndexString"], unfollowed := true, recurses := true, named := ["unicode/utf8.first", "unicode/utf8.acceptRanges", "internal/bytealg.MaxLen"], apart := false, laid := [("unicode/utf8.acceptRanges", laid_unicode_utf8_acceptRanges), ("unicode/utf8.first", laid_unicode_utf8_first)], narrowed := true }
def CopyKnownUptoSaid : Prop := copyKnownUptoRow.holds Tryd.pinned (OpenSpec.upto copyKnownSpec)

/-- 'jalousielaw23.CopyPlays', WHERE WHAT IT READS IS OF BULK AT MOST 1048576: true; the input reads as it did. -/
def copyPlaysUptoRow : OpenClaim := { program := "ytbkhjpclnfljbaadoor", sum := "5e8fc51bd44cc79304eff9194168567fa1aa47250b69f2c8cc908466b36f867b", func := "jalousie/jalousielaw23.CopyPlays", spec := "copyPlays", inPlace := ["internal/abi.NoEscape", "internal/bytealg.IndexByteString", "internal/bytealg.IndexString"], unfollowed := true, recurses := true, named := ["unicode/utf8.first", "unicode/utf8.acceptRanges", "internal/bytealg.MaxLen"], apart := false, laid := [("unicode/utf8.acceptRanges", laid_unicode_utf8_acceptRanges), ("unicode/utf8.first", laid_unicode_utf8_first)], narrowed := true }
def CopyPlaysUptoSaid : Prop := copyPlaysUptoRow.holds Tryd.pinned (OpenSpec.upto copyPlaysSpec)

/-- 'jalousielaw23.CopyNobody', WHERE WHAT IT READS IS OF BULK AT MOST 1048576: true; the input reads as it did. -/
def copyNobodyUptoRow : OpenClaim := { program := "ytbkhjpclnfljbaadoor", sum := "5e8fc51bd44cc79304eff9194168567fa1aa47250b69f2c8cc908466b36f867b", func := "jalousie/jalousielaw23.CopyNobody", spec := "copyNobody", inPlace := ["internal/abi.NoEscape", "internal/bytealg.IndexByteString", "internal/bytealg.IndexString"], unfollowed := true, recurses := true, named := ["unicode/utf8.first", "unicode/utf8.acceptRanges", "internal/bytealg.MaxLen"], apart := false, laid := [("unicode/utf8.acceptRanges", laid_unicode_utf8_acceptRanges), ("unicode/utf8.first", laid_unicode_utf8_first)], narrowed := true }
def CopyNobodyUptoSaid : Prop := copyNobodyUptoRow.holds Tryd.pinned (OpenSpec.upto copyNobodySpec)

/-- 'jalousielaw23.CopyStill', WHERE WHAT IT READS IS OF BULK AT MOST 1048576: true; the input reads as it did. -/
def copyStillUptoRow : OpenClaim := { program := "ytbkhjpclnfljbaadoor", sum := "5e8fc51bd44cc79304eff9194168567fa1aa47250b69f2c8cc908466b36f867b", func := "jalousie/jalousielaw23.CopyStill", spec := "copyStill", inPlace := ["internal/abi.NoEscape", "internal/bytealg.IndexByteString", "internal/bytealg.IndexString"], unfollowed := true, recurses := true, named := ["unicode/utf8.first", "unicode/utf8.acceptRanges", "internal/bytealg.MaxLen"], apart := false, laid := [("unicode/utf8.acceptRanges", laid_unicode_utf8_acceptRanges), ("unicode/utf8.first", laid_unicode_utf8_first)], narrowed := true }
def CopyStillUptoSaid : Prop := copyStillUptoRow.holds Tryd.pinned (OpenSpec.upto copyStillSpec)

end Rows
end Go.Proofs.YtbkhjpclnfljbaaDoor

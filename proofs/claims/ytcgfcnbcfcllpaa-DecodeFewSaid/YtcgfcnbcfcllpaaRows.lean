/-
  No cell of these rows narrows 'for every input' (looked for: loops, veiled, ifaces, maps, wideKeys, modest, calm, conditions, laid).
  DERIVED. THE GIVEN ROWS OF THIS SEAT. 6 by the template 'for every input the law returns true; each argument reads behind the call as it read before'; 0 by the template 'total and deterministic' (their statements: YtcgfcnbcfcllpaaTotals.lean).
  GIVEN WITH THE SEED: the statements are not yours to turn. If you find one false, say at which input.
  Laid BY PROGRAM, IN A SANDBOX (cutbox-rows.mjs): the forced cells as the released guide's own fill.sh prints them over the translation 913e9469e6cb53fa… (all of the seat's roots in one cut). By AI agents, Wed Nov 11 2026. No macro, syntax, notation, axiom, sorry.
-/
import Derived.Test.YtcgfcnbcfcllpaaChecked
import GoSem.Claim
import GoSem.ClaimJoined
import GoSem.ClaimMapViews
import Derived.JoinedTies
import Derived.KernelRfl
namespace Go.Proofs.Ytcgfcnbcfcllpaa
/- THE CELL 'sum', in the pinned program and in every row, IS THE sha256 OF THE DUMP (.gsa) THAT YtcgfcnbcfcllpaaProg.lean LOADS. Nothing in Lean hashes anything: it is a label: what it is worth is what the hold of that sum in a sandbox is worth. -/
noncomputable def Try.pinned : Pinned := { name := "ytcgfcnbcfcllpaa", sum := "913e9469e6cb53fa1df4b9e0b33bc36d5b5c0bfebeff31fa932ddad2fd603f32", checked := Try.checked }
namespace Rows
def none {H : Type} : Left H := { results := [], args := [] }

/-- 'jalousielaw05.DecodeKnown': WHATEVER THE INPUT: true; the input reads as it did. -/
def decodeKnownSpec : ChangeSpec := { name := "decodeKnown", fn := fun _ => fun
  | [] => { results := [.lit (.bool true)], args := [] }
  | _ => none }
def decodeKnownRow : OpenClaim := { program := "ytcgfcnbcfcllpaa", sum := "913e9469e6cb53fa1df4b9e0b33bc36d5b5c0bfebeff31fa932ddad2fd603f32", func := "jalousie/jalousielaw05.DecodeKnown", spec := "decodeKnown", apart := false }
def DecodeKnownSaid : Prop := decodeKnownRow.holds Try.pinned (OpenSpec.ofChange decodeKnownSpec)

/-- ITS FALSE NEIGHBOUR: 'it returns false'. Refute it at one input. -/
def decodeKnownWrong : ChangeSpec := { name := "decodeKnown", fn := fun _ => fun
  | [] => { results := [.lit (.bool false)], args := [] }
  | _ => none }
def DecodeKnownWrongFalsely : Prop := decodeKnownRow.holds Try.pinned (OpenSpec.ofChange decodeKnownWrong)

/-- 'jalousielaw05.DecodeTells': WHATEVER THE INPUT: true; the input reads as it did. -/
def decodeTellsSpec : ChangeSpec := { name := "decodeTells", fn := fun _ => fun
  | [d] => { results := [.lit (.bool true)], args := [d] }
  | _ => none }
def decodeTellsRow : OpenClaim := { program := "ytcgfcnbcfcllpaa", sum := "913e9469e6cb53fa1df4b9e0b33bc36d5b5c0bfebeff31fa932ddad2fd603f32", func := "jalousie/jalousielaw05.DecodeTells", spec := "decodeTells", apart := false }
def DecodeTellsSaid : Prop := decodeTellsRow.holds Try.pinned (OpenSpec.ofChange decodeTellsSpec)

/-- ITS FALSE NEIGHBOUR: 'it returns false'. Refute it at one input. -/
def decodeTellsWrong : ChangeSpec := { name := "decodeTells", fn := fun _ => fun
  | [d] => { results := [.lit (.bool false)], args := [d] }
  | _ => none }
def DecodeTellsWrongFalsely : Prop := decodeTellsRow.holds Try.pinned (OpenSpec.ofChange decodeTellsWrong)

/-- 'jalousielaw05.DecodeFew': WHATEVER THE INPUT: true; the input reads as it did. -/
def decodeFewSpec : ChangeSpec := { name := "decodeFew", fn := fun _ => fun
  | [d1, d2, d3, d4] => { results := [.lit (.bool true)], args := [d1, d2, d3, d4] }
  | _ => none }
def decodeFewRow : OpenClaim := { program := "ytcgfcnbcfcllpaa", sum := "913e9469e6cb53fa1df4b9e0b33bc36d5b5c0bfebeff31fa932ddad2fd603f32", func := "jalousie/jalousielaw05.DecodeFew", spec := "decodeFew", apart := false }
def DecodeFewSaid : Prop := decodeFewRow.holds Try.pinned (OpenSpec.ofChange decodeFewSpec)

/-- ITS FALSE NEIGHBOUR: 'it returns false'. Refute it at one input. -/
def decodeFewWrong : ChangeSpec := { name := "decodeFew", fn := fun _ => fun
  | [d1, d2, d3, d4] => { results := [.lit (.bool false)], args := [d1, d2, d3, d4] }
  | _ => none }
def DecodeFewWrongFalsely : Prop := decodeFewRow.holds Try.pinned (OpenSpec.ofChange decodeFewWrong)

/-- 'jalousielaw05.DecodeNobody': WHATEVER THE INPUT: true; the input reads as it did. -/
def decodeNobodySpec : ChangeSpec := { name := "decodeNobody", fn := fun _ => fun
  | [d] => { results := [.lit (.bool true)], args := [d] }
  | _ => none }
def decodeNobodyRow : OpenClaim := { program := "ytcgfcnbcfcllpaa", sum := "913e9469e6cb53fa1df4b9e0b33bc36d5b5c0bfebeff31fa932ddad2fd603f32", func := "jalousie/jalousielaw05.DecodeNobody", spec := "decodeNobody", apart := false }
def DecodeNobodySaid : Prop := decodeNobodyRow.holds Try.pinned (OpenSpec.ofChange decodeNobodySpec)

/-- ITS FALSE NEIGHBOUR: 'it returns false'. Refute it at one input. -/
def decodeNobodyWrong : ChangeSpec := { name := "decodeNobody", fn := fun _ => fun
  | [d] => { results := [.lit (.bool false)], args := [d] }
  | _ => none }
def DecodeNobodyWrongFalsely : Prop := decodeNobodyRow.holds Try.pinned (OpenSpec.ofChange decodeNobodyWrong)

/-- 'jalousielaw05.DecodeGo': WHATEVER THE INPUT: true; the input reads as it did. -/
def decodeGoSpec : ChangeSpec := { name := "decodeGo", fn := fun _ => fun
  | [d] => { results := [.lit (.bool true)], args := [d] }
  | _ => none }
def decodeGoRow : OpenClaim := { program := "ytcgfcnbcfcllpaa", sum := "913e9469e6cb53fa1df4b9e0b33bc36d5b5c0bfebeff31fa932ddad2fd603f32", func := "jalousie/jalousielaw05.DecodeGo", spec := "decodeGo", apart := false }
def DecodeGoSaid : Prop := decodeGoRow.holds Try.pinned (OpenSpec.ofChange decodeGoSpec)

/-- ITS FALSE NEIGHBOUR: 'it returns false'. Refute it at one input. -/
def decodeGoWrong : ChangeSpec := { name := "decodeGo", fn := fun _ => fun
  | [d] => { results := [.lit (.bool false)], args := [d] }
  | _ => none }
def DecodeGoWrongFalsely : Prop := decodeGoRow.holds Try.pinned (OpenSpec.ofChange decodeGoWrong)

/-- 'jalousielaw05.DecodeJoins': WHATEVER THE INPUT: true; the input reads as it did. -/
def decodeJoinsSpec : ChangeSpec := { name := "decodeJoins", fn := fun _ => fun
  | [d1, d2] => { results := [.lit (.bool true)], args := [d1, d2] }
  | _ => none }
def decodeJoinsRow : OpenClaim := { program := "ytcgfcnbcfcllpaa", sum := "913e9469e6cb53fa1df4b9e0b33bc36d5b5c0bfebeff31fa932ddad2fd603f32", func := "jalousie/jalousielaw05.DecodeJoins", spec := "decodeJoins", apart := false }
def DecodeJoinsSaid : Prop := decodeJoinsRow.holds Try.pinned (OpenSpec.ofChange decodeJoinsSpec)

/-- ITS FALSE NEIGHBOUR: 'it returns false'. Refute it at one input. -/
def decodeJoinsWrong : ChangeSpec := { name := "decodeJoins", fn := fun _ => fun
  | [d1, d2] => { results := [.lit (.bool false)], args := [d1, d2] }
  | _ => none }
def DecodeJoinsWrongFalsely : Prop := decodeJoinsRow.holds Try.pinned (OpenSpec.ofChange decodeJoinsWrong)

/- THE SECOND FORM. 'bulk': how many values and letters a reading holds, each counted each time it is reached (what is shared counts as often as it is met; a slice's spare places count too). A statement '..UptoSaid' is the law's where the arguments, and the package variables that the reading takes, are together of bulk at most 1048576: NARROWER than '..Said'. Prove '..Said' where nothing that the law and all that it calls make is longer than what came in: it says more and counts as full. Else prove '..UptoSaid'. A law counts once. -/
mutual
def uptoBulk {H : Type} : DataW H → Nat
  | .lit (.string bytes) => bytes.length + 1
  | .lit _ => 1
  | .nil => 1
  | .ptr d => uptoBulk d + 1
  | .slice elems spare => uptoBulkAll elems + uptoBulkAll spare + 1
  | .agg parts => uptoBulkAll parts + 1
  | .iface _ d => uptoBulk d + 1
  | .map entries => uptoBulkEntries entries + 1
  | .held _ => 1
def uptoBulkAll {H : Type} : List (DataW H) → Nat
  | [] => 0
  | d :: r => uptoBulk d + uptoBulkAll r
def uptoBulkEntries {H : Type} : List (Lit × DataW H) → Nat
  | [] => 0
  | x :: r => uptoBulkEntry x + uptoBulkEntries r
def uptoBulkEntry {H : Type} : Lit × DataW H → Nat
  | (.string bytes, d) => bytes.length + uptoBulk d + 1
  | (_, d) => uptoBulk d + 1
 end
def uptoSmall : (H : Type) → List (DataW H) → Bool := fun _ ds => decide (uptoBulkAll ds ≤ 1048576)
def OpenSpec.upto (s : _root_.Go.ChangeSpec) : _root_.Go.OpenSpec := { _root_.Go.OpenSpec.ofChange s with cond := some uptoSmall }

/-- 'jalousielaw05.DecodeKnown', WHERE WHAT IT READS IS OF BULK AT MOST 1048576: true; the input reads as it did. -/
def decodeKnownUptoRow : OpenClaim := { program := "ytcgfcnbcfcllpaa", sum := "913e9469e6cb53fa1df4b9e0b33bc36d5b5c0bfebeff31fa932ddad2fd603f32", func := "jalousie/jalousielaw05.DecodeKnown", spec := "decodeKnown", apart := false, narrowed := true }
def DecodeKnownUptoSaid : Prop := decodeKnownUptoRow.holds Try.pinned (OpenSpec.upto decodeKnownSpec)

/-- 'jalousielaw05.DecodeTells', WHERE WHAT IT READS IS OF BULK AT MOST 1048576: true; the input reads as it did. -/
def decodeTellsUptoRow : OpenClaim := { program := "ytcgfcnbcfcllpaa", sum := "913e9469e6cb53fa1df4b9e0b33bc36d5b5c0bfebeff31fa932ddad2fd603f32", func := "jalousie/jalousielaw05.DecodeTells", spec := "decodeTells", apart := false, narrowed := true }
def DecodeTellsUptoSaid : Prop := decodeTellsUptoRow.holds Try.pinned (OpenSpec.upto decodeTellsSpec)

/-- 'jalousielaw05.DecodeFew', WHERE WHAT IT READS IS OF BULK AT MOST 1048576: true; the input reads as it did. -/
def decodeFewUptoRow : OpenClaim := { program := "ytcgfcnbcfcllpaa", sum := "913e9469e6cb53fa1df4b9e0b33bc36d5b5c0bfebeff31fa932ddad2fd603f32", func := "jalousie/jalousielaw05.DecodeFew", spec := "decodeFew", apart := false, narrowed := true }
def DecodeFewUptoSaid : Prop := decodeFewUptoRow.holds Try.pinned (OpenSpec.upto decodeFewSpec)

/-- 'jalousielaw05.DecodeNobody', WHERE WHAT IT READS IS OF BULK AT MOST 1048576: true; the input reads as it did. -/
def decodeNobodyUptoRow : OpenClaim := { program := "ytcgfcnbcfcllpaa", sum := "913e9469e6cb53fa1df4b9e0b33bc36d5b5c0bfebeff31fa932ddad2fd603f32", func := "jalousie/jalousielaw05.DecodeNobody", spec := "decodeNobody", apart := false, narrowed := true }
def DecodeNobodyUptoSaid : Prop := decodeNobodyUptoRow.holds Try.pinned (OpenSpec.upto decodeNobodySpec)

/-- 'jalousielaw05.DecodeGo', WHERE WHAT IT READS IS OF BULK AT MOST 1048576: true; the input reads as it did. -/
def decodeGoUptoRow : OpenClaim := { program := "ytcgfcnbcfcllpaa", sum := "913e9469e6cb53fa1df4b9e0b33bc36d5b5c0bfebeff31fa932ddad2fd603f32", func := "jalousie/jalousielaw05.DecodeGo", spec := "decodeGo", apart := false, narrowed := true }
def DecodeGoUptoSaid : Prop := decodeGoUptoRow.holds Try.pinned (OpenSpec.upto decodeGoSpec)

/-- 'jalousielaw05.DecodeJoins', WHERE WHAT IT READS IS OF BULK AT MOST 1048576: true; the input reads as it did. -/
def decodeJoinsUptoRow : OpenClaim := { program := "ytcgfcnbcfcllpaa", sum := "913e9469e6cb53fa1df4b9e0b33bc36d5b5c0bfebeff31fa932ddad2fd603f32", func := "jalousie/jalousielaw05.DecodeJoins", spec := "decodeJoins", apart := false, narrowed := true }
def DecodeJoinsUptoSaid : Prop := decodeJoinsUptoRow.holds Try.pinned (OpenSpec.upto decodeJoinsSpec)

end Rows
end Go.Proofs.Ytcgfcnbcfcllpaa

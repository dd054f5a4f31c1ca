/-
  No cell of these rows narrows 'for every input' (looked for: loops, veiled, ifaces, maps, wideKeys, modest, calm, conditions, laid).
  DERIVED. THE GIVEN ROWS OF THIS SEAT. 10 by the template 'for every input the law returns true; each argument reads behind the call as it read before'; 0 by the template 'total and deterministic' (their statements: YtcekghcejmhhaaaTotals.lean).
  GIVEN WITH THE SEED: the statements are not yours to turn. If you find one false, say at which input.
  Laid BY PROGRAM, IN A SANDBOX (cutbox-rows.mjs): the forced cells as the released guide's own fill.sh prints them over the translation 03aaab78c8967493… (all of the seat's roots in one cut). By AI agents, Wed Nov 11 2026. No macro, syntax, notation, axiom, sorry.
-/
import Derived.Test.YtcekghcejmhhaaaChecked
import GoSem.Claim
import GoSem.ClaimJoined
import GoSem.ClaimMapViews
import Derived.JoinedTies
import Derived.KernelRfl
namespace Go.Proofs.Ytcekghcejmhhaaa
/- THE CELL 'sum', in the pinned program and in every row, IS THE sha256 OF THE DUMP (.gsa) THAT YtcekghcejmhhaaaProg.lean LOADS. Nothing in Lean hashes anything: it is a label: what it is worth is what the hold of that sum in a sandbox is worth. -/
noncomputable def Try.pinned : Pinned := { name := "ytcekghcejmhhaaa", sum := "03aaab78c89674932069c750725be5d584f33469db6220ffff12dac97e41946d", checked := Try.checked }
namespace Rows
def none {H : Type} : Left H := { results := [], args := [] }

/-- 'sorobanlaw18.CharsEncode': WHATEVER THE INPUT: true; the input reads as it did. -/
def charsEncodeSpec : ChangeSpec := { name := "charsEncode", fn := fun _ => fun
  | [d1, d2, d3] => { results := [.lit (.bool true)], args := [d1, d2, d3] }
  | _ => none }
def charsEncodeRow : OpenClaim := { program := "ytcekghcejmhhaaa", sum := "03aaab78c89674932069c750725be5d584f33469db6220ffff12dac97e41946d", func := "soroban/sorobanlaw18.CharsEncode", spec := "charsEncode", unfollowed := true, recurses := true, apart := false }
def CharsEncodeSaid : Prop := charsEncodeRow.holds Try.pinned (OpenSpec.ofChange charsEncodeSpec)

/-- ITS FALSE NEIGHBOUR: 'it returns false'. Refute it at one input. -/
def charsEncodeWrong : ChangeSpec := { name := "charsEncode", fn := fun _ => fun
  | [d1, d2, d3] => { results := [.lit (.bool false)], args := [d1, d2, d3] }
  | _ => none }
def CharsEncodeWrongFalsely : Prop := charsEncodeRow.holds Try.pinned (OpenSpec.ofChange charsEncodeWrong)

/-- 'sorobanlaw18.CharsBack': WHATEVER THE INPUT: true; the input reads as it did. -/
def charsBackSpec : ChangeSpec := { name := "charsBack", fn := fun _ => fun
  | [d1, d2, d3] => { results := [.lit (.bool true)], args := [d1, d2, d3] }
  | _ => none }
def charsBackRow : OpenClaim := { program := "ytcekghcejmhhaaa", sum := "03aaab78c89674932069c750725be5d584f33469db6220ffff12dac97e41946d", func := "soroban/sorobanlaw18.CharsBack", spec := "charsBack", unfollowed := true, recurses := true, apart := false }
def CharsBackSaid : Prop := charsBackRow.holds Try.pinned (OpenSpec.ofChange charsBackSpec)

/-- ITS FALSE NEIGHBOUR: 'it returns false'. Refute it at one input. -/
def charsBackWrong : ChangeSpec := { name := "charsBack", fn := fun _ => fun
  | [d1, d2, d3] => { results := [.lit (.bool false)], args := [d1, d2, d3] }
  | _ => none }
def CharsBackWrongFalsely : Prop := charsBackRow.holds Try.pinned (OpenSpec.ofChange charsBackWrong)

/-- 'sorobanlaw18.CharsPieces': WHATEVER THE INPUT: true; the input reads as it did. -/
def charsPiecesSpec : ChangeSpec := { name := "charsPieces", fn := fun _ => fun
  | [d1, d2, d3, d4] => { results := [.lit (.bool true)], args := [d1, d2, d3, d4] }
  | _ => none }
def charsPiecesRow : OpenClaim := { program := "ytcekghcejmhhaaa", sum := "03aaab78c89674932069c750725be5d584f33469db6220ffff12dac97e41946d", func := "soroban/sorobanlaw18.CharsPieces", spec := "charsPieces", unfollowed := true, recurses := true, apart := false }
def CharsPiecesSaid : Prop := charsPiecesRow.holds Try.pinned (OpenSpec.ofChange charsPiecesSpec)

/-- ITS FALSE NEIGHBOUR: 'it returns false'. Refute it at one input. -/
def charsPiecesWrong : ChangeSpec := { name := "charsPieces", fn := fun _ => fun
  | [d1, d2, d3, d4] => { results := [.lit (.bool false)], args := [d1, d2, d3, d4] }
  | _ => none }
def CharsPiecesWrongFalsely : Prop := charsPiecesRow.holds Try.pinned (OpenSpec.ofChange charsPiecesWrong)

/-- 'sorobanlaw18.CharsFit': WHATEVER THE INPUT: true; the input reads as it did. -/
def charsFitSpec : ChangeSpec := { name := "charsFit", fn := fun _ => fun
  | [d1, d2, d3, d4] => { results := [.lit (.bool true)], args := [d1, d2, d3, d4] }
  | _ => none }
def charsFitRow : OpenClaim := { program := "ytcekghcejmhhaaa", sum := "03aaab78c89674932069c750725be5d584f33469db6220ffff12dac97e41946d", func := "soroban/sorobanlaw18.CharsFit", spec := "charsFit", unfollowed := true, recurses := true, apart := false }
def CharsFitSaid : Prop := charsFitRow.holds Try.pinned (OpenSpec.ofChange charsFitSpec)

/-- ITS FALSE NEIGHBOUR: 'it returns false'. Refute it at one input. -/
def charsFitWrong : ChangeSpec := { name := "charsFit", fn := fun _ => fun
  | [d1, d2, d3, d4] => { results := [.lit (.bool false)], args := [d1, d2, d3, d4] }
  | _ => none }
def CharsFitWrongFalsely : Prop := charsFitRow.holds Try.pinned (OpenSpec.ofChange charsFitWrong)

/-- 'sorobanlaw18.CharsErrors': WHATEVER THE INPUT: true; the input reads as it did. -/
def charsErrorsSpec : ChangeSpec := { name := "charsErrors", fn := fun _ => fun
  | [d1, d2] => { results := [.lit (.bool true)], args := [d1, d2] }
  | _ => none }
def charsErrorsRow : OpenClaim := { program := "ytcekghcejmhhaaa", sum := "03aaab78c89674932069c750725be5d584f33469db6220ffff12dac97e41946d", func := "soroban/sorobanlaw18.CharsErrors", spec := "charsErrors", unfollowed := true, recurses := true, apart := false }
def CharsErrorsSaid : Prop := charsErrorsRow.holds Try.pinned (OpenSpec.ofChange charsErrorsSpec)

/-- ITS FALSE NEIGHBOUR: 'it returns false'. Refute it at one input. -/
def charsErrorsWrong : ChangeSpec := { name := "charsErrors", fn := fun _ => fun
  | [d1, d2] => { results := [.lit (.bool false)], args := [d1, d2] }
  | _ => none }
def CharsErrorsWrongFalsely : Prop := charsErrorsRow.holds Try.pinned (OpenSpec.ofChange charsErrorsWrong)

/-- 'sorobanlaw18.CharsDecode': WHATEVER THE INPUT: true; the input reads as it did. -/
def charsDecodeSpec : ChangeSpec := { name := "charsDecode", fn := fun _ => fun
  | [d1, d2] => { results := [.lit (.bool true)], args := [d1, d2] }
  | _ => none }
def charsDecodeRow : OpenClaim := { program := "ytcekghcejmhhaaa", sum := "03aaab78c89674932069c750725be5d584f33469db6220ffff12dac97e41946d", func := "soroban/sorobanlaw18.CharsDecode", spec := "charsDecode", unfollowed := true, recurses := true, apart := false }
def CharsDecodeSaid : Prop := charsDecodeRow.holds Try.pinned (OpenSpec.ofChange charsDecodeSpec)

/-- ITS FALSE NEIGHBOUR: 'it returns false'. Refute it at one input. -/
def charsDecodeWrong : ChangeSpec := { name := "charsDecode", fn := fun _ => fun
  | [d1, d2] => { results := [.lit (.bool false)], args := [d1, d2] }
  | _ => none }
def CharsDecodeWrongFalsely : Prop := charsDecodeRow.holds Try.pinned (OpenSpec.ofChange charsDecodeWrong)

/-- 'sorobanlaw18.CharsCounts': WHATEVER THE INPUT: true; the input reads as it did. -/
def charsCountsSpec : ChangeSpec := { name := "charsCounts", fn := fun _ => fun
  | [d1, d2, d3] => { results := [.lit (.bool true)], args := [d1, d2, d3] }
  | _ => none }
def charsCountsRow : OpenClaim := { program := "ytcekghcejmhhaaa", sum := "03aaab78c89674932069c750725be5d584f33469db6220ffff12dac97e41946d", func := "soroban/sorobanlaw18.CharsCounts", spec := "charsCounts", unfollowed := true, recurses := true, apart := false }
def CharsCountsSaid : Prop := charsCountsRow.holds Try.pinned (OpenSpec.ofChange charsCountsSpec)

/-- ITS FALSE NEIGHBOUR: 'it returns false'. Refute it at one input. -/
def charsCountsWrong : ChangeSpec := { name := "charsCounts", fn := fun _ => fun
  | [d1, d2, d3] => { results := [.lit (.bool false)], args := [d1, d2, d3] }
  | _ => none }
def CharsCountsWrongFalsely : Prop := charsCountsRow.holds Try.pinned (OpenSpec.ofChange charsCountsWrong)

/-- 'sorobanlaw18.CharsConvert': WHATEVER THE INPUT: true; the input reads as it did. -/
def charsConvertSpec : ChangeSpec := { name := "charsConvert", fn := fun _ => fun
  | [d1, d2, d3] => { results := [.lit (.bool true)], args := [d1, d2, d3] }
  | _ => none }
def charsConvertRow : OpenClaim := { program := "ytcekghcejmhhaaa", sum := "03aaab78c89674932069c750725be5d584f33469db6220ffff12dac97e41946d", func := "soroban/sorobanlaw18.CharsConvert", spec := "charsConvert", unfollowed := true, recurses := true, apart := false }
def CharsConvertSaid : Prop := charsConvertRow.holds Try.pinned (OpenSpec.ofChange charsConvertSpec)

/-- ITS FALSE NEIGHBOUR: 'it returns false'. Refute it at one input. -/
def charsConvertWrong : ChangeSpec := { name := "charsConvert", fn := fun _ => fun
  | [d1, d2, d3] => { results := [.lit (.bool false)], args := [d1, d2, d3] }
  | _ => none }
def CharsConvertWrongFalsely : Prop := charsConvertRow.holds Try.pinned (OpenSpec.ofChange charsConvertWrong)

/-- 'sorobanlaw18.CharsTrip': WHATEVER THE INPUT: true; the input reads as it did. -/
def charsTripSpec : ChangeSpec := { name := "charsTrip", fn := fun _ => fun
  | [d1, d2, d3] => { results := [.lit (.bool true)], args := [d1, d2, d3] }
  | _ => none }
def charsTripRow : OpenClaim := { program := "ytcekghcejmhhaaa", sum := "03aaab78c89674932069c750725be5d584f33469db6220ffff12dac97e41946d", func := "soroban/sorobanlaw18.CharsTrip", spec := "charsTrip", unfollowed := true, recurses := true, apart := false }
def CharsTripSaid : Prop := charsTripRow.holds Try.pinned (OpenSpec.ofChange charsTripSpec)

/-- ITS FALSE NEIGHBOUR: 'it returns false'. Refute it at one input. -/
def charsTripWrong : ChangeSpec := { name := "charsTrip", fn := fun _ => fun
  | [d1, d2, d3] => { results := [.lit (.bool false)], args := [d1, d2, d3] }
  | _ => none }
def CharsTripWrongFalsely : Prop := charsTripRow.holds Try.pinned (OpenSpec.ofChange charsTripWrong)

/-- 'sorobanlaw18.CharsNext': WHATEVER THE INPUT: true; the input reads as it did. -/
def charsNextSpec : ChangeSpec := { name := "charsNext", fn := fun _ => fun
  | [d1, d2, d3, d4] => { results := [.lit (.bool true)], args := [d1, d2, d3, d4] }
  | _ => none }
def charsNextRow : OpenClaim := { program := "ytcekghcejmhhaaa", sum := "03aaab78c89674932069c750725be5d584f33469db6220ffff12dac97e41946d", func := "soroban/sorobanlaw18.CharsNext", spec := "charsNext", unfollowed := true, recurses := true, apart := false }
def CharsNextSaid : Prop := charsNextRow.holds Try.pinned (OpenSpec.ofChange charsNextSpec)

/-- ITS FALSE NEIGHBOUR: 'it returns false'. Refute it at one input. -/
def charsNextWrong : ChangeSpec := { name := "charsNext", fn := fun _ => fun
  | [d1, d2, d3, d4] => { results := [.lit (.bool false)], args := [d1, d2, d3, d4] }
  | _ => none }
def CharsNextWrongFalsely : Prop := charsNextRow.holds Try.pinned (OpenSpec.ofChange charsNextWrong)

/- THE SECOND FORM. 'bulk': how many values and letters a reading holds, each counted each time it is reached (what is shared counts as often as it is met; a slice's spare places count too). A statement '..UptoSaid' is the law's where the arguments, and the package variables that the reading takes, are together of bulk at most 1048576: NARROWER than '..Said'. Prove '..Said' where nothing that the law and all that it calls make is longer than what came in: it says more and counts as full. Else prove '..UptoSaid'. A law counts once. -/
mutual
def uptoBulk {H : Type} : DataW H → Nat
  | .lit (.string bytes) => bytes.length + 1
  | .lit _ => 1
  | .nil => 1
  | .ptr d => uptoBulk d + 1
  | .slice elems spare => uptoBulkAll elems + uptoBulkAll spare + 1
  | .agg parts => uptoBulkAll parts + 1
  | .iface _ d => uptoBulk d + 1
  | .map entries => uptoBulkEntries entries + 1
  | .held _ => 1
def uptoBulkAll {H : Type} : List (DataW H) → Nat
  | [] => 0
  | d :: r => uptoBulk d + uptoBulkAll r
def uptoBulkEntries {H : Type} : List (Lit × DataW H) → Nat
  | [] => 0
  | x :: r => uptoBulkEntry x + uptoBulkEntries r
def uptoBulkEntry {H : Type} : Lit × DataW H → Nat
  | (.string bytes, d) => bytes.length + uptoBulk d + 1
  | (_, d) => uptoBulk d + 1
 end
def uptoSmall : (H : Type) → List (DataW H) → Bool := fun _ ds => decide (uptoBulkAll ds ≤ 1048576)
def OpenSpec.upto (s : _root_.Go.ChangeSpec) : _root_.Go.OpenSpec := { _root_.Go.OpenSpec.ofChange s with cond := some uptoSmall }

/-- 'sorobanlaw18.CharsEncode', WHERE WHAT IT READS IS OF BULK AT MOST 1048576: true; the input reads as it did. -/
def charsEncodeUptoRow : OpenClaim := { program := "ytcekghcejmhhaaa", sum := "03aaab78c89674932069c750725be5d584f33469db6220ffff12dac97e41946d", func := "soroban/sorobanlaw18.CharsEncode", spec := "charsEncode", unfollowed := true, recurses := true, apart := false, narrowed := true }
def CharsEncodeUptoSaid : Prop := charsEncodeUptoRow.holds Try.pinned (OpenSpec.upto charsEncodeSpec)

/-- 'sorobanlaw18.CharsBack', WHERE WHAT IT READS IS OF BULK AT MOST 1048576: true; the input reads as it did. -/
def charsBackUptoRow : OpenClaim := { program := "ytcekghcejmhhaaa", sum := "03aaab78c89674932069c750725be5d584f33469db6220ffff12dac97e41946d", func := "soroban/sorobanlaw18.CharsBack", spec := "charsBack", unfollowed := true, recurses := true, apart := false, narrowed := true }
def CharsBackUptoSaid : Prop := charsBackUptoRow.holds Try.pinned (OpenSpec.upto charsBackSpec)

/-- 'sorobanlaw18.CharsPieces', WHERE WHAT IT READS IS OF BULK AT MOST 1048576: true; the input reads as it did. -/
def charsPiecesUptoRow : OpenClaim := { program := "ytcekghcejmhhaaa", sum := "03aaab78c89674932069c750725be5d584f33469db6220ffff12dac97e41946d", func := "soroban/sorobanlaw18.CharsPieces", spec := "charsPieces", unfollowed := true, recurses := true, apart := false, narrowed := true }
def CharsPiecesUptoSaid : Prop := charsPiecesUptoRow.holds Try.pinned (OpenSpec.upto charsPiecesSpec)

/-- 'sorobanlaw18.CharsFit', WHERE WHAT IT READS IS OF BULK AT MOST 1048576: true; the input reads as it did. -/
def charsFitUptoRow : OpenClaim := { program := "ytcekghcejmhhaaa", sum := "03aaab78c89674932069c750725be5d584f33469db6220ffff12dac97e41946d", func := "soroban/sorobanlaw18.CharsFit", spec := "charsFit", unfollowed := true, recurses := true, apart := false, narrowed := true }
def CharsFitUptoSaid : Prop := charsFitUptoRow.holds Try.pinned (OpenSpec.upto charsFitSpec)

/-- 'sorobanlaw18.CharsErrors', WHERE WHAT IT READS IS OF BULK AT MOST 1048576: true; the input reads as it did. -/
def charsErrorsUptoRow : OpenClaim := { program := "ytcekghcejmhhaaa", sum := "03aaab78c89674932069c750725be5d584f33469db6220ffff12dac97e41946d", func := "soroban/sorobanlaw18.CharsErrors", spec := "charsErrors", unfollowed := true, recurses := true, apart := false, narrowed := true }
def CharsErrorsUptoSaid : Prop := charsErrorsUptoRow.holds Try.pinned (OpenSpec.upto charsErrorsSpec)

/-- 'sorobanlaw18.CharsDecode', WHERE WHAT IT READS IS OF BULK AT MOST 1048576: true; the input reads as it did. -/
def charsDecodeUptoRow : OpenClaim := { program := "ytcekghcejmhhaaa", sum := "03aaab78c89674932069c750725be5d584f33469db6220ffff12dac97e41946d", func := "soroban/sorobanlaw18.CharsDecode", spec := "charsDecode", unfollowed := true, recurses := true, apart := false, narrowed := true }
def CharsDecodeUptoSaid : Prop := charsDecodeUptoRow.holds Try.pinned (OpenSpec.upto charsDecodeSpec)

/-- 'sorobanlaw18.CharsCounts', WHERE WHAT IT READS IS OF BULK AT MOST 1048576: true; the input reads as it did. -/
def charsCountsUptoRow : OpenClaim := { program := "ytcekghcejmhhaaa", sum := "03aaab78c89674932069c750725be5d584f33469db6220ffff12dac97e41946d", func := "soroban/sorobanlaw18.CharsCounts", spec := "charsCounts", unfollowed := true, recurses := true, apart := false, narrowed := true }
def CharsCountsUptoSaid : Prop := charsCountsUptoRow.holds Try.pinned (OpenSpec.upto charsCountsSpec)

/-- 'sorobanlaw18.CharsConvert', WHERE WHAT IT READS IS OF BULK AT MOST 1048576: true; the input reads as it did. -/
def charsConvertUptoRow : OpenClaim := { program := "ytcekghcejmhhaaa", sum := "03aaab78c89674932069c750725be5d584f33469db6220ffff12dac97e41946d", func := "soroban/sorobanlaw18.CharsConvert", spec := "charsConvert", unfollowed := true, recurses := true, apart := false, narrowed := true }
def CharsConvertUptoSaid : Prop := charsConvertUptoRow.holds Try.pinned (OpenSpec.upto charsConvertSpec)

/-- 'sorobanlaw18.CharsTrip', WHERE WHAT IT READS IS OF BULK AT MOST 1048576: true; the input reads as it did. -/
def charsTripUptoRow : OpenClaim := { program := "ytcekghcejmhhaaa", sum := "03aaab78c89674932069c750725be5d584f33469db6220ffff12dac97e41946d", func := "soroban/sorobanlaw18.CharsTrip", spec := "charsTrip", unfollowed := true, recurses := true, apart := false, narrowed := true }
def CharsTripUptoSaid : Prop := charsTripUptoRow.holds Try.pinned (OpenSpec.upto charsTripSpec)

/-- 'sorobanlaw18.CharsNext', WHERE WHAT IT READS IS OF BULK AT MOST 1048576: true; the input reads as it did. -/
def charsNextUptoRow : OpenClaim := { program := "ytcekghcejmhhaaa", sum := "03aaab78c89674932069c750725be5d584f33469db6220ffff12dac97e41946d", func := "soroban/sorobanlaw18.CharsNext", spec := "charsNext", unfollowed := true, recurses := true, apart := false, narrowed := true }
def CharsNextUptoSaid : Prop := charsNextUptoRow.holds Try.pinned (OpenSpec.upto charsNextSpec)

end Rows
end Go.Proofs.Ytcekghcejmhhaaa

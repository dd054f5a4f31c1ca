/-
  NARROWER THAN 'FOR EVERY INPUT', by the rows' own cells (each row's printed sentence says how): BinaryBits: laid · BinaryPlaces: laid · BinaryBack: laid · BinarySpecials: laid · BinaryRemakes: laid · BinaryOrder: laid · BinaryNeighbours: laid.
  DERIVED. THE GIVEN ROWS OF THIS SEAT. 7 by the template 'for every input the law returns true; each argument reads behind the call as it read before'; 0 by the template 'total and deterministic' (their statements: YtacnkcojhlbkoaaDoorTotals.lean).
  GIVEN WITH THE SEED: the statements are not yours to turn. If you find one false, say at which input.
  Laid BY PROGRAM, IN A SANDBOX (cutbox-rows.mjs): the forced cells as the released guide's own fill.sh prints them over the translation 8b95a057da1847d0… (all of the seat's roots in one cut). By AI agents, Wed Nov 11 2026. No macro, syntax, notation, axiom, sorry.
-/
import Derived.Test.YtacnkcojhlbkoaaDoorChecked
import GoSem.Claim
import GoSem.ClaimJoined
import GoSem.ClaimMapViews
import Derived.JoinedTies
import Derived.KernelRfl
namespace Go.Proofs.YtacnkcojhlbkoaaDoor
/- THE CELL 'sum', in the pinned program and in every row, IS THE sha256 OF THE DUMP (.gsa) THAT YtacnkcojhlbkoaaDoorProg.lean LOADS. Nothing in Lean hashes anything: it is a label: what it is worth is what the hold of that sum in a sandbox is worth. -/
noncomputable def Tryd.pinned : Pinned := { name := "ytacnkcojhlbkoaadoor", sum := "8b95a057da1847d03a7b87f95b81c1d355ddeb0ff751298214a415e13ce1e190", checked := Tryd.checked }
namespace Rows
def none {H : Type} : Left H := { results := [], args := [] }

/- WHAT THE LISTED PACKAGE-LEVEL VARIABLES READ AS WHEN THE CALL BEGINS. Each datum BY PROGRAM (the guide's laid-datum.mjs) off the statement by which the dump's own 'gosem.cut.vars' lays the variable. In a bare row this is a premise. The card (YtacnkcojhlbkoaaDoorCards.lean) ties it to the program's text. -/
def laid_math_bits_deBruijn32tab {H : Type} : DataW H := .agg [.lit (.int .u8 0), .lit (.int .u8 1), .lit (.int .u8 28), .lit (.int .u8 2), .lit (.int .u8 29), .lit (.int .u8 14), .lit (.int .u8 24), .lit (.int .u8 3), .lit (.int .u8 30), .lit (.int .u8 22), .lit (.int .u8 20), .lit (.int .u8 15), .lit (.int .u8 25), .lit (.int .u8 17), .lit (.int .u8 4), .lit (.int .u8 8), .lit (.int .u8 31), .lit (.int .u8 27), .lit (.int .u8 13), .lit (.int .u8 23), .lit (.int .u8 21), .lit (.int .u8 19), .lit (.int .u8 16), .lit (.int .u8 7), .lit (.int .u8 26), .lit (.int .u8 12), .lit (.int .u8 18), .lit (.int .u8 6), .lit (.int .u8 11), .lit (.int .u8 5), .lit (.int .u8 10), .lit (.int .u8 9)]

/-- 'sorobanlaw05.BinaryBits': WHATEVER THE INPUT: true; the input reads as it did. -/
def binaryBitsSpec : ChangeSpec := { name := "binaryBits", fn := fun _ => fun
  | [d1, d2, d3] => { results := [.lit (.bool true)], args := [d1, d2, d3] }
  | _ => none }
def binaryBitsRow : OpenClaim := { program := "ytacnkcojhlbkoaadoor", sum := "8b95a057da1847d03a7b87f95b81c1d355ddeb0ff751298214a415e13ce1e190", func := "soroban/sorobanlaw05.BinaryBits", spec := "binaryBits", unfollowed := true, recurses := true, named := ["math/bits.deBruijn32tab"], apart := false, laid := [("math/bits.deBruijn32tab", laid_math_bits_deBruijn32tab)] }
def BinaryBitsSaid : Prop := binaryBitsRow.holds Tryd.pinned (OpenSpec.ofChange binaryBitsSpec)

/-- ITS FALSE NEIGHBOUR: 'it returns false'. Refute it at one input. -/
def binaryBitsWrong : ChangeSpec := { name := "binaryBits", fn := fun _ => fun
  | [d1, d2, d3] => { results := [.lit (.bool false)], args := [d1, d2, d3] }
  | _ => none }
def BinaryBitsWrongFalsely : Prop := binaryBitsRow.holds Tryd.pinned (OpenSpec.ofChange binaryBitsWrong)

/-- 'sorobanlaw05.BinaryPlaces': WHATEVER THE INPUT: true; the input reads as it did. -/
def binaryPlacesSpec : ChangeSpec := { name := "binaryPlaces", fn := fun _ => fun
  | [d1, d2] => { results := [.lit (.bool true)], args := [d1, d2] }
  | _ => none }
def binaryPlacesRow : OpenClaim := { program := "ytacnkcojhlbkoaadoor", sum := "8b95a057da1847d03a7b87f95b81c1d355ddeb0ff751298214a415e13ce1e190", func := "soroban/sorobanlaw05.BinaryPlaces", spec := "binaryPlaces", unfollowed := true, recurses := true, named := ["math/bits.deBruijn32tab"], apart := false, laid := [("math/bits.deBruijn32tab", laid_math_bits_deBruijn32tab)] }
def BinaryPlacesSaid : Prop := binaryPlacesRow.holds Tryd.pinned (OpenSpec.ofChange binaryPlacesSpec)

/-- ITS FALSE NEIGHBOUR: 'it returns false'. Refute it at one input. -/
def binaryPlacesWrong : ChangeSpec := { name := "binaryPlaces", fn := fun _ => fun
  | [d1, d2] => { results := [.lit (.bool false)], args := [d1, d2] }
  | _ => none }
def BinaryPlacesWrongFalsely : Prop := binaryPlacesRow.holds Tryd.pinned (OpenSpec.ofChange binaryPlacesWrong)

/-- 'sorobanlaw05.BinaryBack': WHATEVER THE INPUT: true; the input reads as it did. -/
def binaryBackSpec : ChangeSpec := { name := "binaryBack", fn := fun _ => fun
  | [d1, d2] => { results := [.lit (.bool true)], args := [d1, d2] }
  | _ => none }
def binaryBackRow : OpenClaim := { program := "ytacnkcojhlbkoaadoor", sum := "8b95a057da1847d03a7b87f95b81c1d355ddeb0ff751298214a415e13ce1e190", func := "soroban/sorobanlaw05.BinaryBack", spec := "binaryBack", unfollowed := true, recurses := true, named := ["math/bits.deBruijn32tab"], apart := false, laid := [("math/bits.deBruijn32tab", laid_math_bits_deBruijn32tab)] }
def BinaryBackSaid : Prop := binaryBackRow.holds Tryd.pinned (OpenSpec.ofChange binaryBackSpec)

/-- ITS FALSE NEIGHBOUR: 'it returns false'. Refute it at one input. -/
def binaryBackWrong : ChangeSpec := { name := "binaryBack", fn := fun _ => fun
  | [d1, d2] => { results := [.lit (.bool false)], args := [d1, d2] }
  | _ => none }
def BinaryBackWrongFalsely : Prop := binaryBackRow.holds Tryd.pinned (OpenSpec.ofChange binaryBackWrong)

/-- 'sorobanlaw05.BinarySpecials': WHATEVER THE INPUT: true; the input reads as it did. -/
def binarySpecialsSpec : ChangeSpec := { name := "binarySpecials", fn := fun _ => fun
  | [d1, d2, d3, d4, d5] => { results := [.lit (.bool true)], args := [d1, d2, d3, d4, d5] }
  | _ => none }
def binarySpecialsRow : OpenClaim := { program := "ytacnkcojhlbkoaadoor", sum := "8b95a057da1847d03a7b87f95b81c1d355ddeb0ff751298214a415e13ce1e190", func := "soroban/sorobanlaw05.BinarySpecials", spec := "binarySpecials", unfollowed := true, recurses := true, named := ["math/bits.deBruijn32tab"], apart := false, laid := [("math/bits.deBruijn32tab", laid_math_bits_deBruijn32tab)] }
def BinarySpecialsSaid : Prop := binarySpecialsRow.holds Tryd.pinned (OpenSpec.ofChange binarySpecialsSpec)

/-- ITS FALSE NEIGHBOUR: 'it returns false'. Refute it at one input. -/
def binarySpecialsWrong : ChangeSpec := { name := "binarySpecials", fn := fun _ => fun
  | [d1, d2, d3, d4, d5] => { results := [.lit (.bool false)], args := [d1, d2, d3, d4, d5] }
  | _ => none }
def BinarySpecialsWrongFalsely : Prop := binarySpecialsRow.holds Tryd.pinned (OpenSpec.ofChange binarySpecialsWrong)

/-- 'sorobanlaw05.BinaryRemakes': WHATEVER THE INPUT: true; the input reads as it did. -/
def binaryRemakesSpec : ChangeSpec := { name := "binaryRemakes", fn := fun _ => fun
  | [d1, d2, d3] => { results := [.lit (.bool true)], args := [d1, d2, d3] }
  | _ => none }
def binaryRemakesRow : OpenClaim := { program := "ytacnkcojhlbkoaadoor", sum := "8b95a057da1847d03a7b87f95b81c1d355ddeb0ff751298214a415e13ce1e190", func := "soroban/sorobanlaw05.BinaryRemakes", spec := "binaryRemakes", unfollowed := true, recurses := true, named := ["math/bits.deBruijn32tab"], apart := false, laid := [("math/bits.deBruijn32tab", laid_math_bits_deBruijn32tab)] }
def BinaryRemakesSaid : Prop := binaryRemakesRow.holds Tryd.pinned (OpenSpec.ofChange binaryRemakesSpec)

/-- ITS FALSE NEIGHBOUR: 'it returns false'. Refute it at one input. -/
def binaryRemakesWrong : ChangeSpec := { name := "binaryRemakes", fn := fun _ => fun
  | [d1, d2, d3] => { results := [.lit (.bool false)], args := [d1, d2, d3] }
  | _ => none }
def BinaryRemakesWrongFalsely : Prop := binaryRemakesRow.holds Tryd.pinned (OpenSpec.ofChange binaryRemakesWrong)

/-- 'sorobanlaw05.BinaryOrder': WHATEVER THE INPUT: true; the input reads as it did. -/
def binaryOrderSpec : ChangeSpec := { name := "binaryOrder", fn := fun _ => fun
  | [d1, d2, d3] => { results := [.lit (.bool true)], args := [d1, d2, d3] }
  | _ => none }
def binaryOrderRow : OpenClaim := { program := "ytacnkcojhlbkoaadoor", sum := "8b95a057da1847d03a7b87f95b81c1d355ddeb0ff751298214a415e13ce1e190", func := "soroban/sorobanlaw05.BinaryOrder", spec := "binaryOrder", unfollowed := true, recurses := true, named := ["math/bits.deBruijn32tab"], apart := false, laid := [("math/bits.deBruijn32tab", laid_math_bits_deBruijn32tab)] }
def BinaryOrderSaid : Prop := binaryOrderRow.holds Tryd.pinned (OpenSpec.ofChange binaryOrderSpec)

/-- ITS FALSE NEIGHBOUR: 'it returns false'. Refute it at one input. -/
def binaryOrderWrong : ChangeSpec := { name := "binaryOrder", fn := fun _ => fun
  | [d1, d2, d3] => { results := [.lit (.bool false)], args := [d1, d2, d3] }
  | _ => none }
def BinaryOrderWrongFalsely : Prop := binaryOrderRow.holds Tryd.pinned (OpenSpec.ofChange binaryOrderWrong)

/-- 'sorobanlaw05.BinaryNeighbours': WHATEVER THE INPUT: true; the input reads as it did. -/
def binaryNeighboursSpec : ChangeSpec := { name := "binaryNeighbours", fn := fun _ => fun
  | [d1, d2] => { results := [.lit (.bool true)], args := [d1, d2] }
  | _ => none }
def binaryNeighboursRow : OpenClaim := { program := "ytacnkcojhlbkoaadoor", sum := "8b95a057da1847d03a7b87f95b81c1d355ddeb0ff751298214a415e13ce1e190", func := "soroban/sorobanlaw05.BinaryNeighbours", spec := "binaryNeighbours", unfollowed := true, recurses := true, named := ["math/bits.deBruijn32tab"], apart := false, laid := [("math/bits.deBruijn32tab", laid_math_bits_deBruijn32tab)] }
def BinaryNeighboursSaid : Prop := binaryNeighboursRow.holds Tryd.pinned (OpenSpec.ofChange binaryNeighboursSpec)

/-- ITS FALSE NEIGHBOUR: 'it returns false'. Refute it at one input. -/
def binaryNeighboursWrong : ChangeSpec := { name := "binaryNeighbours", fn := fun _ => fun
  | [d1, d2] => { results := [.lit (.bool false)], args := [d1, d2] }
  | _ => none }
def BinaryNeighboursWrongFalsely : Prop := binaryNeighboursRow.holds Tryd.pinned (OpenSpec.ofChange binaryNeighboursWrong)

/- THE SECOND FORM. 'bulk': how many values and letters a reading holds, each counted each time it is reached (what is shared counts as often as it is met; a slice's spare places count too). A statement '..UptoSaid' is the law's where the arguments, and the package variables that the reading takes, are together of bulk at most 1048576: NARROWER than '..Said'. Prove '..Said' where nothing that the law and all that it calls make is longer than what came in: it says more and counts as full. Else prove '..UptoSaid'. A law counts once. -/
mutual
def uptoBulk {H : Type} : DataW H → Nat
  | .lit (.string bytes) => bytes.length + 1
  | .lit _ => 1
  | .nil => 1
  | .ptr d => uptoBulk d + 1
  | .slice elems spare => uptoBulkAll elems + uptoBulkAll spare + 1
  | .agg parts => uptoBulkAll parts + 1
  | .iface _ d => uptoBulk d + 1
  | .map entries => uptoBulkEntries entries + 1
  | .held _ => 1
def uptoBulkAll {H : Type} : List (DataW H) → Nat
  | [] => 0
  | d :: r => uptoBulk d + uptoBulkAll r
def uptoBulkEntries {H : Type} : List (Lit × DataW H) → Nat
  | [] => 0
  | x :: r => uptoBulkEntry x + uptoBulkEntries r
def uptoBulkEntry {H : Type} : Lit × DataW H → Nat
  | (.string bytes, d) => bytes.length + uptoBulk d + 1
  | (_, d) => uptoBulk d + 1
 end
def uptoSmall : (H : Type) → List (DataW H) → Bool := fun _ ds => decide (uptoBulkAll ds ≤ 1048576)
def OpenSpec.upto (s : _root_.Go.ChangeSpec) : _root_.Go.OpenSpec := { _root_.Go.OpenSpec.ofChange s with cond := some uptoSmall }

/-- 'sorobanlaw05.BinaryBits', WHERE WHAT IT READS IS OF BULK AT MOST 1048576: true; the input reads as it did. -/
def binaryBitsUptoRow : OpenClaim := { program := "ytacnkcojhlbkoaadoor", sum := "8b95a057da1847d03a7b87f95b81c1d355ddeb0ff751298214a415e13ce1e190", func := "soroban/sorobanlaw05.BinaryBits", spec := "binaryBits", unfollowed := true, recurses := true, named := ["math/bits.deBruijn32tab"], apart := false, laid := [("math/bits.deBruijn32tab", laid_math_bits_deBruijn32tab)], narrowed := true }
def BinaryBitsUptoSaid : Prop := binaryBitsUptoRow.holds Tryd.pinned (OpenSpec.upto binaryBitsSpec)

/-- 'sorobanlaw05.BinaryPlaces', WHERE WHAT IT READS IS OF BULK AT MOST 1048576: true; the input reads as it did. -/
def binaryPlacesUptoRow : OpenClaim := { program := "ytacnkcojhlbkoaadoor", sum := "8b95a057da1847d03a7b87f95b81c1d355ddeb0ff751298214a415e13ce1e190", func := "soroban/sorobanlaw05.BinaryPlaces", spec := "binaryPlaces", unfollowed := true, recurses := true, named := ["math/bits.deBruijn32tab"], apart := false, laid := [("math/bits.deBruijn32tab", laid_math_bits_deBruijn32tab)], narrowed := true }
def BinaryPlacesUptoSaid : Prop := binaryPlacesUptoRow.holds Tryd.pinned (OpenSpec.upto binaryPlacesSpec)

/-- 'sorobanlaw05.BinaryBack', WHERE WHAT IT READS IS OF BULK AT MOST 1048576: true; the input reads as it did. -/
def binaryBackUptoRow : OpenClaim := { program := "ytacnkcojhlbkoaadoor", sum := "8b95a057da1847d03a7b87f95b81c1d355ddeb0ff751298214a415e13ce1e190", func := "soroban/sorobanlaw05.BinaryBack", spec := "binaryBack", unfollowed := true, recurses := true, named := ["math/bits.deBruijn32tab"], apart := false, laid := [("math/bits.deBruijn32tab", laid_math_bits_deBruijn32tab)], narrowed := true }
def BinaryBackUptoSaid : Prop := binaryBackUptoRow.holds Tryd.pinned (OpenSpec.upto binaryBackSpec)

/-- 'sorobanlaw05.BinarySpecials', WHERE WHAT IT READS IS OF BULK AT MOST 1048576: true; the input reads as it did. -/
def binarySpecialsUptoRow : OpenClaim := { program := "ytacnkcojhlbkoaadoor", sum := "8b95a057da1847d03a7b87f95b81c1d355ddeb0ff751298214a415e13ce1e190", func := "soroban/sorobanlaw05.BinarySpecials", spec := "binarySpecials", unfollowed := true, recurses := true, named := ["math/bits.deBruijn32tab"], apart := false, laid := [("math/bits.deBruijn32tab", laid_math_bits_deBruijn32tab)], narrowed := true }
def BinarySpecialsUptoSaid : Prop := binarySpecialsUptoRow.holds Tryd.pinned (OpenSpec.upto binarySpecialsSpec)

/-- 'sorobanlaw05.BinaryRemakes', WHERE WHAT IT READS IS OF BULK AT MOST 1048576: true; the input reads as it did. -/
def binaryRemakesUptoRow : OpenClaim := { program := "ytacnkcojhlbkoaadoor", sum := "8b95a057da1847d03a7b87f95b81c1d355ddeb0ff751298214a415e13ce1e190", func := "soroban/sorobanlaw05.BinaryRemakes", spec := "binaryRemakes", unfollowed := true, recurses := true, named := ["math/bits.deBruijn32tab"], apart := false, laid := [("math/bits.deBruijn32tab", laid_math_bits_deBruijn32tab)], narrowed := true }
def BinaryRemakesUptoSaid : Prop := binaryRemakesUptoRow.holds Tryd.pinned (OpenSpec.upto binaryRemakesSpec)

/-- 'sorobanlaw05.BinaryOrder', WHERE WHAT IT READS IS OF BULK AT MOST 1048576: true; the input reads as it did. -/
def binaryOrderUptoRow : OpenClaim := { program := "ytacnkcojhlbkoaadoor", sum := "8b95a057da1847d03a7b87f95b81c1d355ddeb0ff751298214a415e13ce1e190", func := "soroban/sorobanlaw05.BinaryOrder", spec := "binaryOrder", unfollowed := true, recurses := true, named := ["math/bits.deBruijn32tab"], apart := false, laid := [("math/bits.deBruijn32tab", laid_math_bits_deBruijn32tab)], narrowed := true }
def BinaryOrderUptoSaid : Prop := binaryOrderUptoRow.holds Tryd.pinned (OpenSpec.upto binaryOrderSpec)

/-- 'sorobanlaw05.BinaryNeighbours', WHERE WHAT IT READS IS OF BULK AT MOST 1048576: true; the input reads as it did. -/
def binaryNeighboursUptoRow : OpenClaim := { program := "ytacnkcojhlbkoaadoor", sum := "8b95a057da1847d03a7b87f95b81c1d355ddeb0ff751298214a415e13ce1e190", func := "soroban/sorobanlaw05.BinaryNeighbours", spec := "binaryNeighbours", unfollowed := true, recurses := true, named := ["math/bits.deBruijn32tab"], apart := false, laid := [("math/bits.deBruijn32tab", laid_math_bits_deBruijn32tab)], narrowed := true }
def BinaryNeighboursUptoSaid : Prop := binaryNeighboursUptoRow.holds Tryd.pinned (OpenSpec.upto binaryNeighboursSpec)

end Rows
end Go.Proofs.YtacnkcojhlbkoaaDoor

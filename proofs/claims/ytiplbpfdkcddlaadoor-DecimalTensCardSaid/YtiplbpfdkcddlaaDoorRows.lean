/-
  NARROWER THAN 'FOR EVERY INPUT', by the rows' own cells (each row's printed sentence says how): DecimalTens: laid · DecimalBack: laid.
  DERIVED. THE GIVEN ROWS OF THIS SEAT. 2 by the template 'for every input the law returns true; each argument reads behind the call as it read before'; 0 by the template 'total and deterministic' (their statements: YtiplbpfdkcddlaaDoorTotals.lean).
  GIVEN WITH THE SEED: the statements are not yours to turn. If you find one false, say at which input.
  Laid BY PROGRAM, IN A SANDBOX (cutbox-rows.mjs): the forced cells as the released guide's own fill.sh prints them over the translation b20afe85da25b1b0… (all of the seat's roots in one cut). By AI agents, Wed Nov 11 2026. No macro, syntax, notation, axiom, sorry.
-/
import Derived.Test.YtiplbpfdkcddlaaDoorChecked
import GoSem.Claim
import GoSem.ClaimJoined
import GoSem.ClaimMapViews
import Derived.JoinedTies
import Derived.KernelRfl
namespace Go.Proofs.YtiplbpfdkcddlaaDoor
/- THE CELL 'sum', in the pinned program and in every row, IS THE sha256 OF THE DUMP (.gsa) THAT YtiplbpfdkcddlaaDoorProg.lean LOADS. Nothing in Lean hashes anything: it is a label: what it is worth is what the hold of that sum in a sandbox is worth. -/
noncomputable def Tryd.pinned : Pinned := { name := "ytiplbpfdkcddlaadoor", sum := "b20afe85da25b1b043a73204cf51d3d9bbd7b49f52de2dfa4b2e0417a37ad9ee", checked := Tryd.checked }
namespace Rows
def none {H : Type} : Left H := { results := [], args := [] }

/- WHAT THE LISTED PACKAGE-LEVEL VARIABLES READ AS WHEN THE CALL BEGINS. Each datum BY PROGRAM (the guide's laid-datum.mjs) off the statement by which the dump's own 'gosem.cut.vars' lays the variable. In a bare row this is a premise. The card (YtiplbpfdkcddlaaDoorCards.lean) ties it to the program's text. -/
def laid_soroban_decimal_formats {H : Type} : DataW H := .agg [.agg [.lit (.int .i64 7), .lit (.int .i64 (-101)), .lit (.int .i64 90), .lit (.int .i64 6), .lit (.int .i64 20)], .agg [.lit (.int .i64 16), .lit (.int .i64 (-398)), .lit (.int .i64 369), .lit (.int .i64 8), .lit (.int .i64 50)], .agg [.lit (.int .i64 34), .lit (.int .i64 (-6176)), .lit (.int .i64 6111), .lit (.int .i64 12), .lit (.int .i64 110)]]

/-- 'sorobanlaw06.DecimalTens': WHATEVER THE INPUT: true; the input reads as it did. -/
def decimalTensSpec : ChangeSpec := { name := "decimalTens", fn := fun _ => fun
  | [d] => { results := [.lit (.bool true)], args := [d] }
  | _ => none }
def decimalTensRow : OpenClaim := { program := "ytiplbpfdkcddlaadoor", sum := "b20afe85da25b1b043a73204cf51d3d9bbd7b49f52de2dfa4b2e0417a37ad9ee", func := "soroban/sorobanlaw06.DecimalTens", spec := "decimalTens", unfollowed := true, recurses := true, named := ["soroban/decimal.formats"], apart := false, laid := [("soroban/decimal.formats", laid_soroban_decimal_formats)] }
def DecimalTensSaid : Prop := decimalTensRow.holds Tryd.pinned (OpenSpec.ofChange decimalTensSpec)

/-- ITS FALSE NEIGHBOUR: 'it returns false'. Refute it at one input. -/
def decimalTensWrong : ChangeSpec := { name := "decimalTens", fn := fun _ => fun
  | [d] => { results := [.lit (.bool false)], args := [d] }
  | _ => none }
def DecimalTensWrongFalsely : Prop := decimalTensRow.holds Tryd.pinned (OpenSpec.ofChange decimalTensWrong)

/-- 'sorobanlaw06.DecimalBack': WHATEVER THE INPUT: true; the input reads as it did. -/
def decimalBackSpec : ChangeSpec := { name := "decimalBack", fn := fun _ => fun
  | [d1, d2, d3, d4] => { results := [.lit (.bool true)], args := [d1, d2, d3, d4] }
  | _ => none }
def decimalBackRow : OpenClaim := { program := "ytiplbpfdkcddlaadoor", sum := "b20afe85da25b1b043a73204cf51d3d9bbd7b49f52de2dfa4b2e0417a37ad9ee", func := "soroban/sorobanlaw06.DecimalBack", spec := "decimalBack", unfollowed := true, recurses := true, named := ["soroban/decimal.formats"], apart := false, laid := [("soroban/decimal.formats", laid_soroban_decimal_formats)] }
def DecimalBackSaid : Prop := decimalBackRow.holds Tryd.pinned (OpenSpec.ofChange decimalBackSpec)

/-- ITS FALSE NEIGHBOUR: 'it returns false'. Refute it at one input. -/
def decimalBackWrong : ChangeSpec := { name := "decimalBack", fn := fun _ => fun
  | [d1, d2, d3, d4] => { results := [.lit (.bool false)], args := [d1, d2, d3, d4] }
  | _ => none }
def DecimalBackWrongFalsely : Prop := decimalBackRow.holds Tryd.pinned (OpenSpec.ofChange decimalBackWrong)

/- THE SECOND FORM. 'bulk': how many values and letters a reading holds, each counted each time it is reached (what is shared counts as often as it is met; a slice's spare places count too). A statement '..UptoSaid' is the law's where the arguments, and the package variables that the reading takes, are together of bulk at most 1048576: NARROWER than '..Said'. Prove '..Said' where nothing that the law and all that it calls make is longer than what came in: it says more and counts as full. Else prove '..UptoSaid'. A law counts once. -/
mutual
def uptoBulk {H : Type} : DataW H → Nat
  | .lit (.string bytes) => bytes.length + 1
  | .lit _ => 1
  | .nil => 1
  | .ptr d => uptoBulk d + 1
  | .slice elems spare => uptoBulkAll elems + uptoBulkAll spare + 1
  | .agg parts => uptoBulkAll parts + 1
  | .iface _ d => uptoBulk d + 1
  | .map entries => uptoBulkEntries entries + 1
  | .held _ => 1
def uptoBulkAll {H : Type} : List (DataW H) → Nat
  | [] => 0
  | d :: r => uptoBulk d + uptoBulkAll r
def uptoBulkEntries {H : Type} : List (Lit × DataW H) → Nat
  | [] => 0
  | x :: r => uptoBulkEntry x + uptoBulkEntries r
def uptoBulkEntry {H : Type} : Lit × DataW H → Nat
  | (.string bytes, d) => bytes.length + uptoBulk d + 1
  | (_, d) => uptoBulk d + 1
 end
def uptoSmall : (H : Type) → List (DataW H) → Bool := fun _ ds => decide (uptoBulkAll ds ≤ 1048576)
def OpenSpec.upto (s : _root_.Go.ChangeSpec) : _root_.Go.OpenSpec := { _root_.Go.OpenSpec.ofChange s with cond := some uptoSmall }

/-- 'sorobanlaw06.DecimalTens', WHERE WHAT IT READS IS OF BULK AT MOST 1048576: true; the input reads as it did. -/
def decimalTensUptoRow : OpenClaim := { program := "ytiplbpfdkcddlaadoor", sum := "b20afe85da25b1b043a73204cf51d3d9bbd7b49f52de2dfa4b2e0417a37ad9ee", func := "soroban/sorobanlaw06.DecimalTens", spec := "decimalTens", unfollowed := true, recurses := true, named := ["soroban/decimal.formats"], apart := false, laid := [("soroban/decimal.formats", laid_soroban_decimal_formats)], narrowed := true }
def DecimalTensUptoSaid : Prop := decimalTensUptoRow.holds Tryd.pinned (OpenSpec.upto decimalTensSpec)

/-- 'sorobanlaw06.DecimalBack', WHERE WHAT IT READS IS OF BULK AT MOST 1048576: true; the input reads as it did. -/
def decimalBackUptoRow : OpenClaim := { program := "ytiplbpfdkcddlaadoor", sum := "b20afe85da25b1b043a73204cf51d3d9bbd7b49f52de2dfa4b2e0417a37ad9ee", func := "soroban/sorobanlaw06.DecimalBack", spec := "decimalBack", unfollowed := true, recurses := true, named := ["soroban/decimal.formats"], apart := false, laid := [("soroban/decimal.formats", laid_soroban_decimal_formats)], narrowed := true }
def DecimalBackUptoSaid : Prop := decimalBackUptoRow.holds Tryd.pinned (OpenSpec.upto decimalBackSpec)

end Rows
end Go.Proofs.YtiplbpfdkcddlaaDoor

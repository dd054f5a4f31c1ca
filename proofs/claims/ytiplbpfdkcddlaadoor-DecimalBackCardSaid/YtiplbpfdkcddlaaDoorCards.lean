/-
  DERIVED. GIVEN WITH THE SEED: THE CARDS: each row of YtiplbpfdkcddlaaDoorRows.lean that lists a variable, with what it lists TIED to the program's text (the seventh form; the later family's looks); each row that meets fmt, with fmt's text TOLD by the authors' own Lean function (tested against real Go, not proved from fmt's source: count such statements apart). THE CARD IS WHAT COUNTS. Prove the row's statement (the work); the ties are given (YtiplbpfdkcddlaaDoorTie.lean); close each card by the builder's one call (the guide's Derived/Test/ToyasCard.lean, 'card_holds'). Laid BY PROGRAM, IN A SANDBOX (cutbox-door.mjs). By AI agents, Wed Nov 11 2026. No macro, syntax, notation, axiom, sorry.
-/
import Derived.Test.YtiplbpfdkcddlaaDoorRows
import GoSem.ClaimSeven
namespace Go.Proofs.YtiplbpfdkcddlaaDoor
namespace Rows

/-- THE TIED CARD OF 'sorobanlaw06.DecimalTens'. -/
def decimalTensCard : Claim7 := { stood := { row := decimalTensRow, standIns := [], harness := (true, "72fc6fe7827bd84f5c74d158583e8bd741bfc77de12a2dce22aa3e44e22205a3"), looks := true }, kinds := [], alts := [], laidByText := true, laidKinds := [.data], laidTests := true, laidLooks := .later }
def DecimalTensCardSaid : Prop := Claim7.holds Tryd.pinned (.plain (OpenSpec.ofChange decimalTensSpec)) decimalTensCard

/-- THE TIED CARD OF 'sorobanlaw06.DecimalBack'. -/
def decimalBackCard : Claim7 := { stood := { row := decimalBackRow, standIns := [], harness := (true, "72fc6fe7827bd84f5c74d158583e8bd741bfc77de12a2dce22aa3e44e22205a3"), looks := true }, kinds := [], alts := [], laidByText := true, laidKinds := [.data], laidTests := true, laidLooks := .later }
def DecimalBackCardSaid : Prop := Claim7.holds Tryd.pinned (.plain (OpenSpec.ofChange decimalBackSpec)) decimalBackCard

/-- THE SECOND FORM's CARD OF 'sorobanlaw06.DecimalTens'. -/
def decimalTensUptoCard : Claim7 := { stood := { row := decimalTensUptoRow, standIns := [], harness := (true, "72fc6fe7827bd84f5c74d158583e8bd741bfc77de12a2dce22aa3e44e22205a3"), looks := true }, kinds := [], alts := [], laidByText := true, laidKinds := [.data], laidTests := true, laidLooks := .later }
def DecimalTensUptoCardSaid : Prop := Claim7.holds Tryd.pinned (.plain (OpenSpec.upto decimalTensSpec)) decimalTensUptoCard

/-- THE SECOND FORM's CARD OF 'sorobanlaw06.DecimalBack'. -/
def decimalBackUptoCard : Claim7 := { stood := { row := decimalBackUptoRow, standIns := [], harness := (true, "72fc6fe7827bd84f5c74d158583e8bd741bfc77de12a2dce22aa3e44e22205a3"), looks := true }, kinds := [], alts := [], laidByText := true, laidKinds := [.data], laidTests := true, laidLooks := .later }
def DecimalBackUptoCardSaid : Prop := Claim7.holds Tryd.pinned (.plain (OpenSpec.upto decimalBackSpec)) decimalBackUptoCard
end Rows
end Go.Proofs.YtiplbpfdkcddlaaDoor

/-
  DERIVED. GIVEN WITH THE SEED: THE CARDS: each row of YtacnkcojhlbkoaaGreatDoorRows.lean that lists a variable, with what it lists TIED to the program's text (the seventh form; the later family's looks); each row that meets fmt, with fmt's text TOLD by the authors' own Lean function (tested against real Go, not proved from fmt's source: count such statements apart). THE CARD IS WHAT COUNTS. Prove the row's statement (the work); the ties are given (YtacnkcojhlbkoaaGreatDoorTie.lean); close each card by the builder's one call (the guide's Derived/Test/ToyasCard.lean, 'card_holds'). Laid BY PROGRAM, IN A SANDBOX (cutbox-door.mjs). By AI agents, Wed Nov 11 2026. No macro, syntax, notation, axiom, sorry.
-/
import Derived.Test.YtacnkcojhlbkoaaGreatDoorRows
import GoSem.ClaimSeven
namespace Go.Proofs.YtacnkcojhlbkoaaGreatDoor
namespace Rows

/-- THE TIED CARD OF 'sorobanlaw05.BinaryFormats'. -/
def binaryFormatsCard : Claim7 := { stood := { row := binaryFormatsRow, standIns := [], harness := (true, "d0e614f9f216638e33df67f4b4efb3eebd2e65b8439fd2584faa7f5b26592dcb"), looks := true }, kinds := [], alts := [], laidByText := true, laidKinds := [.data], laidTests := true, laidLooks := .later }
def BinaryFormatsCardSaid : Prop := Claim7.holds Tryz.pinned (.plain (OpenSpec.ofChange binaryFormatsSpec)) binaryFormatsCard

/-- THE TIED CARD OF 'sorobanlaw05.BinaryValues'. -/
def binaryValuesCard : Claim7 := { stood := { row := binaryValuesRow, standIns := [], harness := (true, "d0e614f9f216638e33df67f4b4efb3eebd2e65b8439fd2584faa7f5b26592dcb"), looks := true }, kinds := [], alts := [], laidByText := true, laidKinds := [.data], laidTests := true, laidLooks := .later }
def BinaryValuesCardSaid : Prop := Claim7.holds Tryz.pinned (.plain (OpenSpec.ofChange binaryValuesSpec)) binaryValuesCard

/-- THE SECOND FORM's CARD OF 'sorobanlaw05.BinaryFormats'. -/
def binaryFormatsUptoCard : Claim7 := { stood := { row := binaryFormatsUptoRow, standIns := [], harness := (true, "d0e614f9f216638e33df67f4b4efb3eebd2e65b8439fd2584faa7f5b26592dcb"), looks := true }, kinds := [], alts := [], laidByText := true, laidKinds := [.data], laidTests := true, laidLooks := .later }
def BinaryFormatsUptoCardSaid : Prop := Claim7.holds Tryz.pinned (.plain (OpenSpec.upto binaryFormatsSpec)) binaryFormatsUptoCard

/-- THE SECOND FORM's CARD OF 'sorobanlaw05.BinaryValues'. -/
def binaryValuesUptoCard : Claim7 := { stood := { row := binaryValuesUptoRow, standIns := [], harness := (true, "d0e614f9f216638e33df67f4b4efb3eebd2e65b8439fd2584faa7f5b26592dcb"), looks := true }, kinds := [], alts := [], laidByText := true, laidKinds := [.data], laidTests := true, laidLooks := .later }
def BinaryValuesUptoCardSaid : Prop := Claim7.holds Tryz.pinned (.plain (OpenSpec.upto binaryValuesSpec)) binaryValuesUptoCard
end Rows
end Go.Proofs.YtacnkcojhlbkoaaGreatDoor

/-
  DERIVED. GIVEN WITH THE SEED: THE CARDS: each row of YtacnkcojhlbkoaaDoorRows.lean that lists a variable, with what it lists TIED to the program's text (the seventh form; the later family's looks); each row that meets fmt, with fmt's text TOLD by the authors' own Lean function (tested against real Go, not proved from fmt's source: count such statements apart). THE CARD IS WHAT COUNTS. Prove the row's statement (the work); the ties are given (YtacnkcojhlbkoaaDoorTie.lean); close each card by the builder's one call (the guide's Derived/Test/ToyasCard.lean, 'card_holds'). Laid BY PROGRAM, IN A SANDBOX (cutbox-door.mjs). By AI agents, Wed Nov 11 2026. No macro, syntax, notation, axiom, sorry.
-/
import Derived.Test.YtacnkcojhlbkoaaDoorRows
import GoSem.ClaimSeven
namespace Go.Proofs.YtacnkcojhlbkoaaDoor
namespace Rows

/-- THE TIED CARD OF 'sorobanlaw05.BinaryBits'. -/
def binaryBitsCard : Claim7 := { stood := { row := binaryBitsRow, standIns := [], harness := (true, "eeec51b5f11a6ac8769c184645a1e1a0c43e3a1c554c637380ae03b96e465813"), looks := true }, kinds := [], alts := [], laidByText := true, laidKinds := [.data], laidTests := true, laidLooks := .later }
def BinaryBitsCardSaid : Prop := Claim7.holds Tryd.pinned (.plain (OpenSpec.ofChange binaryBitsSpec)) binaryBitsCard

/-- THE TIED CARD OF 'sorobanlaw05.BinaryPlaces'. -/
def binaryPlacesCard : Claim7 := { stood := { row := binaryPlacesRow, standIns := [], harness := (true, "eeec51b5f11a6ac8769c184645a1e1a0c43e3a1c554c637380ae03b96e465813"), looks := true }, kinds := [], alts := [], laidByText := true, laidKinds := [.data], laidTests := true, laidLooks := .later }
def BinaryPlacesCardSaid : Prop := Claim7.holds Tryd.pinned (.plain (OpenSpec.ofChange binaryPlacesSpec)) binaryPlacesCard

/-- THE TIED CARD OF 'sorobanlaw05.BinaryBack'. -/
def binaryBackCard : Claim7 := { stood := { row := binaryBackRow, standIns := [], harness := (true, "eeec51b5f11a6ac8769c184645a1e1a0c43e3a1c554c637380ae03b96e465813"), looks := true }, kinds := [], alts := [], laidByText := true, laidKinds := [.data], laidTests := true, laidLooks := .later }
def BinaryBackCardSaid : Prop := Claim7.holds Tryd.pinned (.plain (OpenSpec.ofChange binaryBackSpec)) binaryBackCard

/-- THE TIED CARD OF 'sorobanlaw05.BinarySpecials'. -/
def binarySpecialsCard : Claim7 := { stood := { row := binarySpecialsRow, standIns := [], harness := (true, "eeec51b5f11a6ac8769c184645a1e1a0c43e3a1c554c637380ae03b96e465813"), looks := true }, kinds := [], alts := [], laidByText := true, laidKinds := [.data], laidTests := true, laidLooks := .later }
def BinarySpecialsCardSaid : Prop := Claim7.holds Tryd.pinned (.plain (OpenSpec.ofChange binarySpecialsSpec)) binarySpecialsCard

/-- THE TIED CARD OF 'sorobanlaw05.BinaryRemakes'. -/
def binaryRemakesCard : Claim7 := { stood := { row := binaryRemakesRow, standIns := [], harness := (true, "eeec51b5f11a6ac8769c184645a1e1a0c43e3a1c554c637380ae03b96e465813"), looks := true }, kinds := [], alts := [], laidByText := true, laidKinds := [.data], laidTests := true, laidLooks := .later }
def BinaryRemakesCardSaid : Prop := Claim7.holds Tryd.pinned (.plain (OpenSpec.ofChange binaryRemakesSpec)) binaryRemakesCard

/-- THE TIED CARD OF 'sorobanlaw05.BinaryOrder'. -/
def binaryOrderCard : Claim7 := { stood := { row := binaryOrderRow, standIns := [], harness := (true, "eeec51b5f11a6ac8769c184645a1e1a0c43e3a1c554c637380ae03b96e465813"), looks := true }, kinds := [], alts := [], laidByText := true, laidKinds := [.data], laidTests := true, laidLooks := .later }
def BinaryOrderCardSaid : Prop := Claim7.holds Tryd.pinned (.plain (OpenSpec.ofChange binaryOrderSpec)) binaryOrderCard

/-- THE TIED CARD OF 'sorobanlaw05.BinaryNeighbours'. -/
def binaryNeighboursCard : Claim7 := { stood := { row := binaryNeighboursRow, standIns := [], harness := (true, "eeec51b5f11a6ac8769c184645a1e1a0c43e3a1c554c637380ae03b96e465813"), looks := true }, kinds := [], alts := [], laidByText := true, laidKinds := [.data], laidTests := true, laidLooks := .later }
def BinaryNeighboursCardSaid : Prop := Claim7.holds Tryd.pinned (.plain (OpenSpec.ofChange binaryNeighboursSpec)) binaryNeighboursCard

/-- THE SECOND FORM's CARD OF 'sorobanlaw05.BinaryBits'. -/
def binaryBitsUptoCard : Claim7 := { stood := { row := binaryBitsUptoRow, standIns := [], harness := (true, "eeec51b5f11a6ac8769c184645a1e1a0c43e3a1c554c637380ae03b96e465813"), looks := true }, kinds := [], alts := [], laidByText := true, laidKinds := [.data], laidTests := true, laidLooks := .later }
def BinaryBitsUptoCardSaid : Prop := Claim7.holds Tryd.pinned (.plain (OpenSpec.upto binaryBitsSpec)) binaryBitsUptoCard

/-- THE SECOND FORM's CARD OF 'sorobanlaw05.BinaryPlaces'. -/
def binaryPlacesUptoCard : Claim7 := { stood := { row := binaryPlacesUptoRow, standIns := [], harness := (true, "eeec51b5f11a6ac8769c184645a1e1a0c43e3a1c554c637380ae03b96e465813"), looks := true }, kinds := [], alts := [], laidByText := true, laidKinds := [.data], laidTests := true, laidLooks := .later }
def BinaryPlacesUptoCardSaid : Prop := Claim7.holds Tryd.pinned (.plain (OpenSpec.upto binaryPlacesSpec)) binaryPlacesUptoCard

/-- THE SECOND FORM's CARD OF 'sorobanlaw05.BinaryBack'. -/
def binaryBackUptoCard : Claim7 := { stood := { row := binaryBackUptoRow, standIns := [], harness := (true, "eeec51b5f11a6ac8769c184645a1e1a0c43e3a1c554c637380ae03b96e465813"), looks := true }, kinds := [], alts := [], laidByText := true, laidKinds := [.data], laidTests := true, laidLooks := .later }
def BinaryBackUptoCardSaid : Prop := Claim7.holds Tryd.pinned (.plain (OpenSpec.upto binaryBackSpec)) binaryBackUptoCard

/-- THE SECOND FORM's CARD OF 'sorobanlaw05.BinarySpecials'. -/
def binarySpecialsUptoCard : Claim7 := { stood := { row := binarySpecialsUptoRow, standIns := [], harness := (true, "eeec51b5f11a6ac8769c184645a1e1a0c43e3a1c554c637380ae03b96e465813"), looks := true }, kinds := [], alts := [], laidByText := true, laidKinds := [.data], laidTests := true, laidLooks := .later }
def BinarySpecialsUptoCardSaid : Prop := Claim7.holds Tryd.pinned (.plain (OpenSpec.upto binarySpecialsSpec)) binarySpecialsUptoCard

/-- THE SECOND FORM's CARD OF 'sorobanlaw05.BinaryRemakes'. -/
def binaryRemakesUptoCard : Claim7 := { stood := { row := binaryRemakesUptoRow, standIns := [], harness := (true, "eeec51b5f11a6ac8769c184645a1e1a0c43e3a1c554c637380ae03b96e465813"), looks := true }, kinds := [], alts := [], laidByText := true, laidKinds := [.data], laidTests := true, laidLooks := .later }
def BinaryRemakesUptoCardSaid : Prop := Claim7.holds Tryd.pinned (.plain (OpenSpec.upto binaryRemakesSpec)) binaryRemakesUptoCard

/-- THE SECOND FORM's CARD OF 'sorobanlaw05.BinaryOrder'. -/
def binaryOrderUptoCard : Claim7 := { stood := { row := binaryOrderUptoRow, standIns := [], harness := (true, "eeec51b5f11a6ac8769c184645a1e1a0c43e3a1c554c637380ae03b96e465813"), looks := true }, kinds := [], alts := [], laidByText := true, laidKinds := [.data], laidTests := true, laidLooks := .later }
def BinaryOrderUptoCardSaid : Prop := Claim7.holds Tryd.pinned (.plain (OpenSpec.upto binaryOrderSpec)) binaryOrderUptoCard

/-- THE SECOND FORM's CARD OF 'sorobanlaw05.BinaryNeighbours'. -/
def binaryNeighboursUptoCard : Claim7 := { stood := { row := binaryNeighboursUptoRow, standIns := [], harness := (true, "eeec51b5f11a6ac8769c184645a1e1a0c43e3a1c554c637380ae03b96e465813"), looks := true }, kinds := [], alts := [], laidByText := true, laidKinds := [.data], laidTests := true, laidLooks := .later }
def BinaryNeighboursUptoCardSaid : Prop := Claim7.holds Tryd.pinned (.plain (OpenSpec.upto binaryNeighboursSpec)) binaryNeighboursUptoCard
end Rows
end Go.Proofs.YtacnkcojhlbkoaaDoor

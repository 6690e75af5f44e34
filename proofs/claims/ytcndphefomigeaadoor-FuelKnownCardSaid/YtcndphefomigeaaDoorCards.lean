/-
  DERIVED. GIVEN WITH THE SEED: THE CARDS: each row of YtcndphefomigeaaDoorRows.lean that lists a variable, with what it lists TIED to the program's text (the seventh form; the later family's looks); each row that meets fmt, with fmt's text TOLD by the authors' own Lean function (tested against real Go, not proved from fmt's source: count such statements apart). THE CARD IS WHAT COUNTS. Prove the row's statement (the work); the ties are given (YtcndphefomigeaaDoorTie.lean); close each card by the builder's one call (the guide's Derived/Test/ToyasCard.lean, 'card_holds'). Laid BY PROGRAM, IN A SANDBOX (cutbox-door.mjs). By AI agents, Wed Nov 11 2026. No macro, syntax, notation, axiom, sorry.
-/
import Derived.Test.YtcndphefomigeaaDoorRows
import GoSem.ClaimSeven
namespace Go.Proofs.YtcndphefomigeaaDoor
namespace Rows

/-- THE TIED CARD OF 'sastrugilaw06.FuelKnown'. -/
def fuelKnownCard : Claim7 := { stood := { row := fuelKnownRow, standIns := [], harness := (true, "363114b7ec0a2d5a8e9533944b7f298d3d1a9ad9ce4e2dd014939e77c970b61d"), looks := true }, kinds := [], alts := [], laidByText := true, laidKinds := [.data, .data, .data, .data], laidTests := true, laidLooks := .later }
def FuelKnownCardSaid : Prop := Claim7.holds Tryd.pinned (.plain (OpenSpec.ofChange fuelKnownSpec)) fuelKnownCard

/-- THE TIED CARD OF 'sastrugilaw06.FuelTape'. -/
def fuelTapeCard : Claim7 := { stood := { row := fuelTapeRow, standIns := [], harness := (true, "363114b7ec0a2d5a8e9533944b7f298d3d1a9ad9ce4e2dd014939e77c970b61d"), looks := true }, kinds := [], alts := [], laidByText := true, laidKinds := [.data, .data, .data, .data, .sentinel, .sentinel, .data, .pinned], laidTests := true, laidLooks := .later }
def FuelTapeCardSaid : Prop := Claim7.holds Tryd.pinned (.plain (OpenSpec.ofChange fuelTapeSpec)) fuelTapeCard

/-- THE SECOND FORM's CARD OF 'sastrugilaw06.FuelKnown'. -/
def fuelKnownUptoCard : Claim7 := { stood := { row := fuelKnownUptoRow, standIns := [], harness := (true, "363114b7ec0a2d5a8e9533944b7f298d3d1a9ad9ce4e2dd014939e77c970b61d"), looks := true }, kinds := [], alts := [], laidByText := true, laidKinds := [.data, .data, .data, .data], laidTests := true, laidLooks := .later }
def FuelKnownUptoCardSaid : Prop := Claim7.holds Tryd.pinned (.plain (OpenSpec.upto fuelKnownSpec)) fuelKnownUptoCard

/-- THE SECOND FORM's CARD OF 'sastrugilaw06.FuelTape'. -/
def fuelTapeUptoCard : Claim7 := { stood := { row := fuelTapeUptoRow, standIns := [], harness := (true, "363114b7ec0a2d5a8e9533944b7f298d3d1a9ad9ce4e2dd014939e77c970b61d"), looks := true }, kinds := [], alts := [], laidByText := true, laidKinds := [.data, .data, .data, .data, .sentinel, .sentinel, .data, .pinned], laidTests := true, laidLooks := .later }
def FuelTapeUptoCardSaid : Prop := Claim7.holds Tryd.pinned (.plain (OpenSpec.upto fuelTapeSpec)) fuelTapeUptoCard
end Rows
end Go.Proofs.YtcndphefomigeaaDoor

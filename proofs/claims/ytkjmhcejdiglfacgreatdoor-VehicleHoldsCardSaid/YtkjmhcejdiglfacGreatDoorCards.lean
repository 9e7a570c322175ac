/-
  DERIVED. GIVEN WITH THE SEED: THE CARDS: each row of YtkjmhcejdiglfacGreatDoorRows.lean that lists a variable, with what it lists TIED to the program's text (the seventh form; the later family's looks); each row that meets fmt, with fmt's text TOLD by the authors' own Lean function (tested against real Go, not proved from fmt's source: count such statements apart). THE CARD IS WHAT COUNTS. Prove the row's statement (the work); the ties are given (YtkjmhcejdiglfacGreatDoorTie.lean); close each card by the builder's one call (the guide's Derived/Test/ToyasCard.lean, 'card_holds'). Laid BY PROGRAM, IN A SANDBOX (cutbox-door.mjs). By AI agents, Wed Nov 11 2026. No macro, syntax, notation, axiom, sorry.
-/
import Derived.Test.YtkjmhcejdiglfacGreatDoorRows
import GoSem.ClaimSeven
namespace Go.Proofs.YtkjmhcejdiglfacGreatDoor
namespace Rows

/-- THE TIED CARD OF 'ullagelaw02.VehicleHolds'. -/
def vehicleHoldsCard : Claim7 := { stood := { row := vehicleHoldsRow, standIns := [], harness := (true, "625c15fd1d3f47a786b855d23abbb2b3034cd63558fa92383c5934a452b45b6d"), looks := true }, kinds := [], alts := [], laidByText := true, laidKinds := [.data, .data, .data, .data, .listed, .data, .widerDeep, .widerDeep, .data, .data, .data, .data, .data, .data, .data, .data, .data, .pinned], laidTests := true, laidLooks := .later }
def VehicleHoldsCardSaid : Prop := Claim7.holds Tryz.pinned (.plain (OpenSpec.ofChange vehicleHoldsSpec)) vehicleHoldsCard

/-- THE SECOND FORM's CARD OF 'ullagelaw02.VehicleHolds'. -/
def vehicleHoldsUptoCard : Claim7 := { stood := { row := vehicleHoldsUptoRow, standIns := [], harness := (true, "625c15fd1d3f47a786b855d23abbb2b3034cd63558fa92383c5934a452b45b6d"), looks := true }, kinds := [], alts := [], laidByText := true, laidKinds := [.data, .data, .data, .data, .listed, .data, .widerDeep, .widerDeep, .data, .data, .data, .data, .data, .data, .data, .data, .data, .pinned], laidTests := true, laidLooks := .later }
def VehicleHoldsUptoCardSaid : Prop := Claim7.holds Tryz.pinned (.plain (OpenSpec.upto vehicleHoldsSpec)) vehicleHoldsUptoCard
end Rows
end Go.Proofs.YtkjmhcejdiglfacGreatDoor

/-
  DERIVED. GIVEN WITH THE SEED: THE CARDS: each row of YtfclibhhkphckaaGreatDoorRows.lean that lists a variable, with what it lists TIED to the program's text (the seventh form; the later family's looks); each row that meets fmt, with fmt's text TOLD by the authors' own Lean function (tested against real Go, not proved from fmt's source: count such statements apart). THE CARD IS WHAT COUNTS. Prove the row's statement (the work); the ties are given (YtfclibhhkphckaaGreatDoorTie.lean); close each card by the builder's one call (the guide's Derived/Test/ToyasCard.lean, 'card_holds'). Laid BY PROGRAM, IN A SANDBOX (cutbox-door.mjs). By AI agents, Wed Nov 11 2026. No macro, syntax, notation, axiom, sorry.
-/
import Derived.Test.YtfclibhhkphckaaGreatDoorRows
import GoSem.ClaimSeven
namespace Go.Proofs.YtfclibhhkphckaaGreatDoor
namespace Rows

/-- THE TIED CARD OF 'ullagelaw02.VehicleMasses'. -/
def vehicleMassesCard : Claim7 := { stood := { row := vehicleMassesRow, standIns := [], harness := (true, "c8cc03a4ebfa3f506af08d42836a024d47143b2b9e7feda6ff0edafa54980bb7"), looks := true }, kinds := [], alts := [], laidByText := true, laidKinds := [.data, .data, .data, .data, .listed, .data, .widerDeep, .widerDeep, .data, .data, .data, .data, .data, .data, .data, .data, .data, .pinned], laidTests := true, laidLooks := .later }
def VehicleMassesCardSaid : Prop := Claim7.holds Tryz.pinned (.plain (OpenSpec.ofChange vehicleMassesSpec)) vehicleMassesCard

/-- THE SECOND FORM's CARD OF 'ullagelaw02.VehicleMasses'. -/
def vehicleMassesUptoCard : Claim7 := { stood := { row := vehicleMassesUptoRow, standIns := [], harness := (true, "c8cc03a4ebfa3f506af08d42836a024d47143b2b9e7feda6ff0edafa54980bb7"), looks := true }, kinds := [], alts := [], laidByText := true, laidKinds := [.data, .data, .data, .data, .listed, .data, .widerDeep, .widerDeep, .data, .data, .data, .data, .data, .data, .data, .data, .data, .pinned], laidTests := true, laidLooks := .later }
def VehicleMassesUptoCardSaid : Prop := Claim7.holds Tryz.pinned (.plain (OpenSpec.upto vehicleMassesSpec)) vehicleMassesUptoCard
end Rows
end Go.Proofs.YtfclibhhkphckaaGreatDoor

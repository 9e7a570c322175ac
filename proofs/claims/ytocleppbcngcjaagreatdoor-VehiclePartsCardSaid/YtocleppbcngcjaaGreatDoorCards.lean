/-
  DERIVED. GIVEN WITH THE SEED: THE CARDS: each row of YtocleppbcngcjaaGreatDoorRows.lean that lists a variable, with what it lists TIED to the program's text (the seventh form; the later family's looks); each row that meets fmt, with fmt's text TOLD by the authors' own Lean function (tested against real Go, not proved from fmt's source: count such statements apart). THE CARD IS WHAT COUNTS. Prove the row's statement (the work); the ties are given (YtocleppbcngcjaaGreatDoorTie.lean); close each card by the builder's one call (the guide's Derived/Test/ToyasCard.lean, 'card_holds'). Laid BY PROGRAM, IN A SANDBOX (cutbox-door.mjs). By AI agents, Wed Nov 11 2026. No macro, syntax, notation, axiom, sorry.
-/
import Derived.Test.YtocleppbcngcjaaGreatDoorRows
import GoSem.ClaimSeven
namespace Go.Proofs.YtocleppbcngcjaaGreatDoor
namespace Rows

/-- THE TIED CARD OF 'ullagelaw02.VehicleParts'. -/
def vehiclePartsCard : Claim7 := { stood := { row := vehiclePartsRow, standIns := [], harness := (true, "7eebf723744306a2e62c89fc297e263fdb18d7b45161069ef0480aa5d77d80bc"), looks := true }, kinds := [], alts := [], laidByText := true, laidKinds := [.data, .data, .data, .data, .listed, .data, .widerDeep, .widerDeep, .data, .data, .data, .data, .data, .data, .data, .data, .data, .pinned], laidTests := true, laidLooks := .later }
def VehiclePartsCardSaid : Prop := Claim7.holds Tryz.pinned (.plain (OpenSpec.ofChange vehiclePartsSpec)) vehiclePartsCard

/-- THE SECOND FORM's CARD OF 'ullagelaw02.VehicleParts'. -/
def vehiclePartsUptoCard : Claim7 := { stood := { row := vehiclePartsUptoRow, standIns := [], harness := (true, "7eebf723744306a2e62c89fc297e263fdb18d7b45161069ef0480aa5d77d80bc"), looks := true }, kinds := [], alts := [], laidByText := true, laidKinds := [.data, .data, .data, .data, .listed, .data, .widerDeep, .widerDeep, .data, .data, .data, .data, .data, .data, .data, .data, .data, .pinned], laidTests := true, laidLooks := .later }
def VehiclePartsUptoCardSaid : Prop := Claim7.holds Tryz.pinned (.plain (OpenSpec.upto vehiclePartsSpec)) vehiclePartsUptoCard
end Rows
end Go.Proofs.YtocleppbcngcjaaGreatDoor

/-
  DERIVED. GIVEN WITH THE SEED: THE CARDS: each row of YtpfgephckjpcjaaGreatDoorRows.lean that lists a variable, with what it lists TIED to the program's text (the seventh form; the later family's looks); each row that meets fmt, with fmt's text TOLD by the authors' own Lean function (tested against real Go, not proved from fmt's source: count such statements apart). THE CARD IS WHAT COUNTS. Prove the row's statement (the work); the ties are given (YtpfgephckjpcjaaGreatDoorTie.lean); close each card by the builder's one call (the guide's Derived/Test/ToyasCard.lean, 'card_holds'). Laid BY PROGRAM, IN A SANDBOX (cutbox-door.mjs). By AI agents, Wed Nov 11 2026. No macro, syntax, notation, axiom, sorry.
-/
import Derived.Test.YtpfgephckjpcjaaGreatDoorRows
import GoSem.ClaimSeven
namespace Go.Proofs.YtpfgephckjpcjaaGreatDoor
namespace Rows

/-- THE TIED CARD OF 'ullagelaw02.VehicleReads'. -/
def vehicleReadsCard : Claim7 := { stood := { row := vehicleReadsRow, standIns := [], harness := (true, "58b1c935224a1066a1860e2b694747ecf88073f7f8491b6dee9cc57a376e8a35"), looks := true }, kinds := [], alts := [], laidByText := true, laidKinds := [.data, .data, .data, .data, .listed, .data, .widerDeep, .widerDeep, .data, .data, .data, .data, .data, .data, .data, .data, .data, .pinned], laidTests := true, laidLooks := .later }
def VehicleReadsCardSaid : Prop := Claim7.holds Tryz.pinned (.plain (OpenSpec.ofChange vehicleReadsSpec)) vehicleReadsCard

/-- THE SECOND FORM's CARD OF 'ullagelaw02.VehicleReads'. -/
def vehicleReadsUptoCard : Claim7 := { stood := { row := vehicleReadsUptoRow, standIns := [], harness := (true, "58b1c935224a1066a1860e2b694747ecf88073f7f8491b6dee9cc57a376e8a35"), looks := true }, kinds := [], alts := [], laidByText := true, laidKinds := [.data, .data, .data, .data, .listed, .data, .widerDeep, .widerDeep, .data, .data, .data, .data, .data, .data, .data, .data, .data, .pinned], laidTests := true, laidLooks := .later }
def VehicleReadsUptoCardSaid : Prop := Claim7.holds Tryz.pinned (.plain (OpenSpec.upto vehicleReadsSpec)) vehicleReadsUptoCard
end Rows
end Go.Proofs.YtpfgephckjpcjaaGreatDoor

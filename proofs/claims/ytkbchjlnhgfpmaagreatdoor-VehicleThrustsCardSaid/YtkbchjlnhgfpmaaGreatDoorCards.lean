/-
  DERIVED. GIVEN WITH THE SEED: THE CARDS: each row of YtkbchjlnhgfpmaaGreatDoorRows.lean that lists a variable, with what it lists TIED to the program's text (the seventh form; the later family's looks); each row that meets fmt, with fmt's text TOLD by the authors' own Lean function (tested against real Go, not proved from fmt's source: count such statements apart). THE CARD IS WHAT COUNTS. Prove the row's statement (the work); the ties are given (YtkbchjlnhgfpmaaGreatDoorTie.lean); close each card by the builder's one call (the guide's Derived/Test/ToyasCard.lean, 'card_holds'). Laid BY PROGRAM, IN A SANDBOX (cutbox-door.mjs). By AI agents, Wed Nov 11 2026. No macro, syntax, notation, axiom, sorry.
-/
import Derived.Test.YtkbchjlnhgfpmaaGreatDoorRows
import GoSem.ClaimSeven
namespace Go.Proofs.YtkbchjlnhgfpmaaGreatDoor
namespace Rows

/-- THE TIED CARD OF 'ullagelaw02.VehicleThrusts'. -/
def vehicleThrustsCard : Claim7 := { stood := { row := vehicleThrustsRow, standIns := [], harness := (true, "b9e369e92245063f5459cf44e7991d3e1edb2a810dcc6c46c38705a91d63fa41"), looks := true }, kinds := [], alts := [], laidByText := true, laidKinds := [.data, .data, .data, .data, .listed, .data, .widerDeep, .widerDeep, .data, .data, .data, .data, .data, .data, .data, .data, .data, .pinned], laidTests := true, laidLooks := .later }
def VehicleThrustsCardSaid : Prop := Claim7.holds Tryz.pinned (.plain (OpenSpec.ofChange vehicleThrustsSpec)) vehicleThrustsCard

/-- THE SECOND FORM's CARD OF 'ullagelaw02.VehicleThrusts'. -/
def vehicleThrustsUptoCard : Claim7 := { stood := { row := vehicleThrustsUptoRow, standIns := [], harness := (true, "b9e369e92245063f5459cf44e7991d3e1edb2a810dcc6c46c38705a91d63fa41"), looks := true }, kinds := [], alts := [], laidByText := true, laidKinds := [.data, .data, .data, .data, .listed, .data, .widerDeep, .widerDeep, .data, .data, .data, .data, .data, .data, .data, .data, .data, .pinned], laidTests := true, laidLooks := .later }
def VehicleThrustsUptoCardSaid : Prop := Claim7.holds Tryz.pinned (.plain (OpenSpec.upto vehicleThrustsSpec)) vehicleThrustsUptoCard
end Rows
end Go.Proofs.YtkbchjlnhgfpmaaGreatDoor

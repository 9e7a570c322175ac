/-
  DERIVED. GIVEN WITH THE SEED: THE CARDS: each row of YtogfcodccbcncaaGreatDoorRows.lean that lists a variable, with what it lists TIED to the program's text (the seventh form; the later family's looks); each row that meets fmt, with fmt's text TOLD by the authors' own Lean function (tested against real Go, not proved from fmt's source: count such statements apart). THE CARD IS WHAT COUNTS. Prove the row's statement (the work); the ties are given (YtogfcodccbcncaaGreatDoorTie.lean); close each card by the builder's one call (the guide's Derived/Test/ToyasCard.lean, 'card_holds'). Laid BY PROGRAM, IN A SANDBOX (cutbox-door.mjs). By AI agents, Wed Nov 11 2026. No macro, syntax, notation, axiom, sorry.
-/
import Derived.Test.YtogfcodccbcncaaGreatDoorRows
import GoSem.ClaimSeven
namespace Go.Proofs.YtogfcodccbcncaaGreatDoor
namespace Rows

/-- THE TIED CARD OF 'ullagelaw02.VehicleLaws'. -/
def vehicleLawsCard : Claim7 := { stood := { row := vehicleLawsRow, standIns := [], harness := (true, "c65ffc23198c055ae78195d9ca5a7ae9defd3fe2b68d7512f53cac2b6d831df7"), looks := true }, kinds := [], alts := [], laidByText := true, laidKinds := [.data, .data, .data, .data, .listed, .data, .widerDeep, .widerDeep, .data, .data, .data, .data, .data, .data, .data, .data, .data, .pinned], laidTests := true, laidLooks := .later }
def VehicleLawsCardSaid : Prop := Claim7.holds Tryz.pinned (.plain (OpenSpec.ofChange vehicleLawsSpec)) vehicleLawsCard

/-- THE TIED CARD OF 'ullagelaw02.VehicleNumbers'. -/
def vehicleNumbersCard : Claim7 := { stood := { row := vehicleNumbersRow, standIns := [], harness := (true, "c65ffc23198c055ae78195d9ca5a7ae9defd3fe2b68d7512f53cac2b6d831df7"), looks := true }, kinds := [], alts := [], laidByText := true, laidKinds := [.data, .data, .data, .data, .listed, .data, .widerDeep, .widerDeep, .data, .data, .data, .data, .data, .data, .data, .data, .data, .pinned], laidTests := true, laidLooks := .later }
def VehicleNumbersCardSaid : Prop := Claim7.holds Tryz.pinned (.plain (OpenSpec.ofChange vehicleNumbersSpec)) vehicleNumbersCard

/-- THE TIED CARD OF 'ullagelaw02.VehicleReads'. -/
def vehicleReadsCard : Claim7 := { stood := { row := vehicleReadsRow, standIns := [], harness := (true, "c65ffc23198c055ae78195d9ca5a7ae9defd3fe2b68d7512f53cac2b6d831df7"), looks := true }, kinds := [], alts := [], laidByText := true, laidKinds := [.data, .data, .data, .data, .listed, .data, .widerDeep, .widerDeep, .data, .data, .data, .data, .data, .data, .data, .data, .data, .pinned], laidTests := true, laidLooks := .later }
def VehicleReadsCardSaid : Prop := Claim7.holds Tryz.pinned (.plain (OpenSpec.ofChange vehicleReadsSpec)) vehicleReadsCard

/-- THE TIED CARD OF 'ullagelaw02.VehicleShows'. -/
def vehicleShowsCard : Claim7 := { stood := { row := vehicleShowsRow, standIns := [], harness := (true, "c65ffc23198c055ae78195d9ca5a7ae9defd3fe2b68d7512f53cac2b6d831df7"), looks := true }, kinds := [], alts := [], laidByText := true, laidKinds := [.data, .data, .data, .data, .listed, .data, .widerDeep, .widerDeep, .data, .data, .data, .data, .data, .data, .data, .data, .data, .pinned], laidTests := true, laidLooks := .later }
def VehicleShowsCardSaid : Prop := Claim7.holds Tryz.pinned (.plain (OpenSpec.ofChange vehicleShowsSpec)) vehicleShowsCard

/-- THE TIED CARD OF 'ullagelaw02.VehicleParses'. -/
def vehicleParsesCard : Claim7 := { stood := { row := vehicleParsesRow, standIns := [], harness := (true, "c65ffc23198c055ae78195d9ca5a7ae9defd3fe2b68d7512f53cac2b6d831df7"), looks := true }, kinds := [], alts := [], laidByText := true, laidKinds := [.data, .data, .data, .data, .listed, .data, .widerDeep, .widerDeep, .data, .data, .data, .data, .data, .data, .data, .data, .data, .pinned], laidTests := true, laidLooks := .later }
def VehicleParsesCardSaid : Prop := Claim7.holds Tryz.pinned (.plain (OpenSpec.ofChange vehicleParsesSpec)) vehicleParsesCard

/-- THE TIED CARD OF 'ullagelaw02.VehicleChecks'. -/
def vehicleChecksCard : Claim7 := { stood := { row := vehicleChecksRow, standIns := [], harness := (true, "c65ffc23198c055ae78195d9ca5a7ae9defd3fe2b68d7512f53cac2b6d831df7"), looks := true }, kinds := [], alts := [], laidByText := true, laidKinds := [.data, .data, .data, .data, .listed, .data, .widerDeep, .widerDeep, .data, .data, .data, .data, .data, .data, .data, .data, .data, .pinned], laidTests := true, laidLooks := .later }
def VehicleChecksCardSaid : Prop := Claim7.holds Tryz.pinned (.plain (OpenSpec.ofChange vehicleChecksSpec)) vehicleChecksCard

/-- THE TIED CARD OF 'ullagelaw02.VehicleUnits'. -/
def vehicleUnitsCard : Claim7 := { stood := { row := vehicleUnitsRow, standIns := [], harness := (true, "c65ffc23198c055ae78195d9ca5a7ae9defd3fe2b68d7512f53cac2b6d831df7"), looks := true }, kinds := [], alts := [], laidByText := true, laidKinds := [.data, .data, .data, .data, .listed, .data, .widerDeep, .widerDeep, .data, .data, .data, .data, .data, .data, .data, .data, .data, .pinned], laidTests := true, laidLooks := .later }
def VehicleUnitsCardSaid : Prop := Claim7.holds Tryz.pinned (.plain (OpenSpec.ofChange vehicleUnitsSpec)) vehicleUnitsCard

/-- THE TIED CARD OF 'ullagelaw02.VehicleMasses'. -/
def vehicleMassesCard : Claim7 := { stood := { row := vehicleMassesRow, standIns := [], harness := (true, "c65ffc23198c055ae78195d9ca5a7ae9defd3fe2b68d7512f53cac2b6d831df7"), looks := true }, kinds := [], alts := [], laidByText := true, laidKinds := [.data, .data, .data, .data, .listed, .data, .widerDeep, .widerDeep, .data, .data, .data, .data, .data, .data, .data, .data, .data, .pinned], laidTests := true, laidLooks := .later }
def VehicleMassesCardSaid : Prop := Claim7.holds Tryz.pinned (.plain (OpenSpec.ofChange vehicleMassesSpec)) vehicleMassesCard

/-- THE TIED CARD OF 'ullagelaw02.VehiclePrints'. -/
def vehiclePrintsCard : Claim7 := { stood := { row := vehiclePrintsRow, standIns := [], harness := (true, "c65ffc23198c055ae78195d9ca5a7ae9defd3fe2b68d7512f53cac2b6d831df7"), looks := true }, kinds := [], alts := [], laidByText := true, laidKinds := [.data, .data, .data, .data, .listed, .data, .widerDeep, .widerDeep, .data, .data, .data, .data, .data, .data, .data, .data, .data, .pinned], laidTests := true, laidLooks := .later }
def VehiclePrintsCardSaid : Prop := Claim7.holds Tryz.pinned (.plain (OpenSpec.ofChange vehiclePrintsSpec)) vehiclePrintsCard

/-- THE TIED CARD OF 'ullagelaw02.VehicleHolds'. -/
def vehicleHoldsCard : Claim7 := { stood := { row := vehicleHoldsRow, standIns := [], harness := (true, "c65ffc23198c055ae78195d9ca5a7ae9defd3fe2b68d7512f53cac2b6d831df7"), looks := true }, kinds := [], alts := [], laidByText := true, laidKinds := [.data, .data, .data, .data, .listed, .data, .widerDeep, .widerDeep, .data, .data, .data, .data, .data, .data, .data, .data, .data, .pinned], laidTests := true, laidLooks := .later }
def VehicleHoldsCardSaid : Prop := Claim7.holds Tryz.pinned (.plain (OpenSpec.ofChange vehicleHoldsSpec)) vehicleHoldsCard

/-- THE TIED CARD OF 'ullagelaw02.VehicleParts'. -/
def vehiclePartsCard : Claim7 := { stood := { row := vehiclePartsRow, standIns := [], harness := (true, "c65ffc23198c055ae78195d9ca5a7ae9defd3fe2b68d7512f53cac2b6d831df7"), looks := true }, kinds := [], alts := [], laidByText := true, laidKinds := [.data, .data, .data, .data, .listed, .data, .widerDeep, .widerDeep, .data, .data, .data, .data, .data, .data, .data, .data, .data, .pinned], laidTests := true, laidLooks := .later }
def VehiclePartsCardSaid : Prop := Claim7.holds Tryz.pinned (.plain (OpenSpec.ofChange vehiclePartsSpec)) vehiclePartsCard

/-- THE TIED CARD OF 'ullagelaw02.VehicleThrusts'. -/
def vehicleThrustsCard : Claim7 := { stood := { row := vehicleThrustsRow, standIns := [], harness := (true, "c65ffc23198c055ae78195d9ca5a7ae9defd3fe2b68d7512f53cac2b6d831df7"), looks := true }, kinds := [], alts := [], laidByText := true, laidKinds := [.data, .data, .data, .data, .listed, .data, .widerDeep, .widerDeep, .data, .data, .data, .data, .data, .data, .data, .data, .data, .pinned], laidTests := true, laidLooks := .later }
def VehicleThrustsCardSaid : Prop := Claim7.holds Tryz.pinned (.plain (OpenSpec.ofChange vehicleThrustsSpec)) vehicleThrustsCard

/-- THE SECOND FORM's CARD OF 'ullagelaw02.VehicleLaws'. -/
def vehicleLawsUptoCard : Claim7 := { stood := { row := vehicleLawsUptoRow, standIns := [], harness := (true, "c65ffc23198c055ae78195d9ca5a7ae9defd3fe2b68d7512f53cac2b6d831df7"), looks := true }, kinds := [], alts := [], laidByText := true, laidKinds := [.data, .data, .data, .data, .listed, .data, .widerDeep, .widerDeep, .data, .data, .data, .data, .data, .data, .data, .data, .data, .pinned], laidTests := true, laidLooks := .later }
def VehicleLawsUptoCardSaid : Prop := Claim7.holds Tryz.pinned (.plain (OpenSpec.upto vehicleLawsSpec)) vehicleLawsUptoCard

/-- THE SECOND FORM's CARD OF 'ullagelaw02.VehicleNumbers'. -/
def vehicleNumbersUptoCard : Claim7 := { stood := { row := vehicleNumbersUptoRow, standIns := [], harness := (true, "c65ffc23198c055ae78195d9ca5a7ae9defd3fe2b68d7512f53cac2b6d831df7"), looks := true }, kinds := [], alts := [], laidByText := true, laidKinds := [.data, .data, .data, .data, .listed, .data, .widerDeep, .widerDeep, .data, .data, .data, .data, .data, .data, .data, .data, .data, .pinned], laidTests := true, laidLooks := .later }
def VehicleNumbersUptoCardSaid : Prop := Claim7.holds Tryz.pinned (.plain (OpenSpec.upto vehicleNumbersSpec)) vehicleNumbersUptoCard

/-- THE SECOND FORM's CARD OF 'ullagelaw02.VehicleReads'. -/
def vehicleReadsUptoCard : Claim7 := { stood := { row := vehicleReadsUptoRow, standIns := [], harness := (true, "c65ffc23198c055ae78195d9ca5a7ae9defd3fe2b68d7512f53cac2b6d831df7"), looks := true }, kinds := [], alts := [], laidByText := true, laidKinds := [.data, .data, .data, .data, .listed, .data, .widerDeep, .widerDeep, .data, .data, .data, .data, .data, .data, .data, .data, .data, .pinned], laidTests := true, laidLooks := .later }
def VehicleReadsUptoCardSaid : Prop := Claim7.holds Tryz.pinned (.plain (OpenSpec.upto vehicleReadsSpec)) vehicleReadsUptoCard

/-- THE SECOND FORM's CARD OF 'ullagelaw02.VehicleShows'. -/
def vehicleShowsUptoCard : Claim7 := { stood := { row := vehicleShowsUptoRow, standIns := [], harness := (true, "c65ffc23198c055ae78195d9ca5a7ae9defd3fe2b68d7512f53cac2b6d831df7"), looks := true }, kinds := [], alts := [], laidByText := true, laidKinds := [.data, .data, .data, .data, .listed, .data, .widerDeep, .widerDeep, .data, .data, .data, .data, .data, .data, .data, .data, .data, .pinned], laidTests := true, laidLooks := .later }
def VehicleShowsUptoCardSaid : Prop := Claim7.holds Tryz.pinned (.plain (OpenSpec.upto vehicleShowsSpec)) vehicleShowsUptoCard

/-- THE SECOND FORM's CARD OF 'ullagelaw02.VehicleParses'. -/
def vehicleParsesUptoCard : Claim7 := { stood := { row := vehicleParsesUptoRow, standIns := [], harness := (true, "c65ffc23198c055ae78195d9ca5a7ae9defd3fe2b68d7512f53cac2b6d831df7"), looks := true }, kinds := [], alts := [], laidByText := true, laidKinds := [.data, .data, .data, .data, .listed, .data, .widerDeep, .widerDeep, .data, .data, .data, .data, .data, .data, .data, .data, .data, .pinned], laidTests := true, laidLooks := .later }
def VehicleParsesUptoCardSaid : Prop := Claim7.holds Tryz.pinned (.plain (OpenSpec.upto vehicleParsesSpec)) vehicleParsesUptoCard

/-- THE SECOND FORM's CARD OF 'ullagelaw02.VehicleChecks'. -/
def vehicleChecksUptoCard : Claim7 := { stood := { row := vehicleChecksUptoRow, standIns := [], harness := (true, "c65ffc23198c055ae78195d9ca5a7ae9defd3fe2b68d7512f53cac2b6d831df7"), looks := true }, kinds := [], alts := [], laidByText := true, laidKinds := [.data, .data, .data, .data, .listed, .data, .widerDeep, .widerDeep, .data, .data, .data, .data, .data, .data, .data, .data, .data, .pinned], laidTests := true, laidLooks := .later }
def VehicleChecksUptoCardSaid : Prop := Claim7.holds Tryz.pinned (.plain (OpenSpec.upto vehicleChecksSpec)) vehicleChecksUptoCard

/-- THE SECOND FORM's CARD OF 'ullagelaw02.VehicleUnits'. -/
def vehicleUnitsUptoCard : Claim7 := { stood := { row := vehicleUnitsUptoRow, standIns := [], harness := (true, "c65ffc23198c055ae78195d9ca5a7ae9defd3fe2b68d7512f53cac2b6d831df7"), looks := true }, kinds := [], alts := [], laidByText := true, laidKinds := [.data, .data, .data, .data, .listed, .data, .widerDeep, .widerDeep, .data, .data, .data, .data, .data, .data, .data, .data, .data, .pinned], laidTests := true, laidLooks := .later }
def VehicleUnitsUptoCardSaid : Prop := Claim7.holds Tryz.pinned (.plain (OpenSpec.upto vehicleUnitsSpec)) vehicleUnitsUptoCard

/-- THE SECOND FORM's CARD OF 'ullagelaw02.VehicleMasses'. -/
def vehicleMassesUptoCard : Claim7 := { stood := { row := vehicleMassesUptoRow, standIns := [], harness := (true, "c65ffc23198c055ae78195d9ca5a7ae9defd3fe2b68d7512f53cac2b6d831df7"), looks := true }, kinds := [], alts := [], laidByText := true, laidKinds := [.data, .data, .data, .data, .listed, .data, .widerDeep, .widerDeep, .data, .data, .data, .data, .data, .data, .data, .data, .data, .pinned], laidTests := true, laidLooks := .later }
def VehicleMassesUptoCardSaid : Prop := Claim7.holds Tryz.pinned (.plain (OpenSpec.upto vehicleMassesSpec)) vehicleMassesUptoCard

/-- THE SECOND FORM's CARD OF 'ullagelaw02.VehiclePrints'. -/
def vehiclePrintsUptoCard : Claim7 := { stood := { row := vehiclePrintsUptoRow, standIns := [], harness := (true, "c65ffc23198c055ae78195d9ca5a7ae9defd3fe2b68d7512f53cac2b6d831df7"), looks := true }, kinds := [], alts := [], laidByText := true, laidKinds := [.data, .data, .data, .data, .listed, .data, .widerDeep, .widerDeep, .data, .data, .data, .data, .data, .data, .data, .data, .data, .pinned], laidTests := true, laidLooks := .later }
def VehiclePrintsUptoCardSaid : Prop := Claim7.holds Tryz.pinned (.plain (OpenSpec.upto vehiclePrintsSpec)) vehiclePrintsUptoCard

/-- THE SECOND FORM's CARD OF 'ullagelaw02.VehicleHolds'. -/
def vehicleHoldsUptoCard : Claim7 := { stood := { row := vehicleHoldsUptoRow, standIns := [], harness := (true, "c65ffc23198c055ae78195d9ca5a7ae9defd3fe2b68d7512f53cac2b6d831df7"), looks := true }, kinds := [], alts := [], laidByText := true, laidKinds := [.data, .data, .data, .data, .listed, .data, .widerDeep, .widerDeep, .data, .data, .data, .data, .data, .data, .data, .data, .data, .pinned], laidTests := true, laidLooks := .later }
def VehicleHoldsUptoCardSaid : Prop := Claim7.holds Tryz.pinned (.plain (OpenSpec.upto vehicleHoldsSpec)) vehicleHoldsUptoCard

/-- THE SECOND FORM's CARD OF 'ullagelaw02.VehicleParts'. -/
def vehiclePartsUptoCard : Claim7 := { stood := { row := vehiclePartsUptoRow, standIns := [], harness := (true, "c65ffc23198c055ae78195d9ca5a7ae9defd3fe2b68d7512f53cac2b6d831df7"), looks := true }, kinds := [], alts := [], laidByText := true, laidKinds := [.data, .data, .data, .data, .listed, .data, .widerDeep, .widerDeep, .data, .data, .data, .data, .data, .data, .data, .data, .data, .pinned], laidTests := true, laidLooks := .later }
def VehiclePartsUptoCardSaid : Prop := Claim7.holds Tryz.pinned (.plain (OpenSpec.upto vehiclePartsSpec)) vehiclePartsUptoCard

/-- THE SECOND FORM's CARD OF 'ullagelaw02.VehicleThrusts'. -/
def vehicleThrustsUptoCard : Claim7 := { stood := { row := vehicleThrustsUptoRow, standIns := [], harness := (true, "c65ffc23198c055ae78195d9ca5a7ae9defd3fe2b68d7512f53cac2b6d831df7"), looks := true }, kinds := [], alts := [], laidByText := true, laidKinds := [.data, .data, .data, .data, .listed, .data, .widerDeep, .widerDeep, .data, .data, .data, .data, .data, .data, .data, .data, .data, .pinned], laidTests := true, laidLooks := .later }
def VehicleThrustsUptoCardSaid : Prop := Claim7.holds Tryz.pinned (.plain (OpenSpec.upto vehicleThrustsSpec)) vehicleThrustsUptoCard
end Rows
end Go.Proofs.YtogfcodccbcncaaGreatDoor

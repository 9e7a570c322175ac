import Derived.Test.YtkjmhcejdiglfacGreatDoorProg
import Derived.Test.YtkjmhcejdiglfacGreatDoorRows
import Derived.JoinedOf
set_option linter.unusedVariables false
set_option linter.unusedSimpArgs false
namespace Go.Proofs.YtkjmhcejdiglfacGreatDoor
open Go
theorem zkw:laidOutB Tryz.pinned.checked.prog=true:=by kernel_rfl
theorem zds:mapsRowed Tryz.pinned.checked.prog=true:=by kernel_rfl
theorem zlw:(Rows.vehicleHoldsRow.inPlace == Tryz.pinned.checked.prog.inPlace 3)=true:=by kernel_rfl
theorem ztp:(Rows.vehicleHoldsRow.unfollowed == Tryz.pinned.checked.prog.unfollowed 3)=true:=by kernel_rfl
theorem zvt:(Rows.vehicleHoldsRow.recurses == Tryz.pinned.checked.prog.recurses 3)=true:=by kernel_rfl
theorem zfba:(Rows.vehicleHoldsRow.named == Tryz.pinned.checked.prog.varsNamed 3)=true:=by kernel_rfl
theorem zgba:(Tryz.pinned.checked.prog.stops == [])=true:=by kernel_rfl
theorem zhba:(Tryz.pinned.checked.prog.stopKnobs == [])=true:=by kernel_rfl
theorem ziba:Tryz.pinned.checked.prog.stopsHeard=true:=by kernel_rfl
theorem zjba:Tryz.pinned.checked.prog.mayEnter=true:=by kernel_rfl
theorem zcz:(Rows.vehicleHoldsRow.lifted == Tryz.pinned.checked.prog.liftsFinal)=true:=by kernel_rfl
theorem zwda:(Tryz.pinned.checked.prog.make == some Rows.vehicleHoldsRow.make)=true:=by kernel_rfl
theorem zkba:(Rows.vehicleHoldsRow.plainKeys == Tryz.pinned.checked.prog.plainKeys)=true:=by kernel_rfl
end Go.Proofs.YtkjmhcejdiglfacGreatDoor

import Derived.Test.YtfclibhhkphckaaGreatDoorProg
import Derived.Test.YtfclibhhkphckaaGreatDoorRows
import Derived.JoinedOf
set_option linter.unusedVariables false
set_option linter.unusedSimpArgs false
namespace Go.Proofs.YtfclibhhkphckaaGreatDoor
open Go
theorem zhx:laidOutB Tryz.pinned.checked.prog=true:=by kernel_rfl
theorem zys:mapsRowed Tryz.pinned.checked.prog=true:=by kernel_rfl
theorem zix:(Rows.vehicleMassesRow.inPlace == Tryz.pinned.checked.prog.inPlace 3)=true:=by kernel_rfl
theorem zhq:(Rows.vehicleMassesRow.unfollowed == Tryz.pinned.checked.prog.unfollowed 3)=true:=by kernel_rfl
theorem zpu:(Rows.vehicleMassesRow.recurses == Tryz.pinned.checked.prog.recurses 3)=true:=by kernel_rfl
theorem zpca:(Rows.vehicleMassesRow.named == Tryz.pinned.checked.prog.varsNamed 3)=true:=by kernel_rfl
theorem zqca:(Tryz.pinned.checked.prog.stops == [])=true:=by kernel_rfl
theorem zrca:(Tryz.pinned.checked.prog.stopKnobs == [])=true:=by kernel_rfl
theorem zsca:Tryz.pinned.checked.prog.stopsHeard=true:=by kernel_rfl
theorem ztca:Tryz.pinned.checked.prog.mayEnter=true:=by kernel_rfl
theorem zjaa:(Rows.vehicleMassesRow.lifted == Tryz.pinned.checked.prog.liftsFinal)=true:=by kernel_rfl
theorem zkfa:(Tryz.pinned.checked.prog.make == some Rows.vehicleMassesRow.make)=true:=by kernel_rfl
theorem zuca:(Rows.vehicleMassesRow.plainKeys == Tryz.pinned.checked.prog.plainKeys)=true:=by kernel_rfl
end Go.Proofs.YtfclibhhkphckaaGreatDoor

import Derived.Test.YtpfgephckjpcjaaGreatDoorProg
import Derived.Test.YtpfgephckjpcjaaGreatDoorRows
import Derived.JoinedOf
set_option linter.unusedVariables false
set_option linter.unusedSimpArgs false
namespace Go.Proofs.YtpfgephckjpcjaaGreatDoor
open Go
theorem W8:laidOutB Tryz.pinned.checked.prog=true:=by kernel_rfl
theorem W9:mapsRowed Tryz.pinned.checked.prog=true:=by kernel_rfl
theorem W_:(Rows.vehicleReadsRow.inPlace == Tryz.pinned.checked.prog.inPlace 3)=true:=by kernel_rfl
theorem Xa:(Rows.vehicleReadsRow.unfollowed == Tryz.pinned.checked.prog.unfollowed 3)=true:=by kernel_rfl
theorem Xb:(Rows.vehicleReadsRow.recurses == Tryz.pinned.checked.prog.recurses 3)=true:=by kernel_rfl
theorem N0:(Rows.vehicleReadsRow.named == Tryz.pinned.checked.prog.varsNamed 3)=true:=by kernel_rfl
theorem N1:(Tryz.pinned.checked.prog.stops == [])=true:=by kernel_rfl
theorem N2:(Tryz.pinned.checked.prog.stopKnobs == [])=true:=by kernel_rfl
theorem N3:Tryz.pinned.checked.prog.stopsHeard=true:=by kernel_rfl
theorem N4:Tryz.pinned.checked.prog.mayEnter=true:=by kernel_rfl
theorem N5:(Rows.vehicleReadsRow.lifted == Tryz.pinned.checked.prog.liftsFinal)=true:=by kernel_rfl
theorem N6:(Tryz.pinned.checked.prog.make == some Rows.vehicleReadsRow.make)=true:=by kernel_rfl
theorem N7:(Rows.vehicleReadsRow.plainKeys == Tryz.pinned.checked.prog.plainKeys)=true:=by kernel_rfl
end Go.Proofs.YtpfgephckjpcjaaGreatDoor

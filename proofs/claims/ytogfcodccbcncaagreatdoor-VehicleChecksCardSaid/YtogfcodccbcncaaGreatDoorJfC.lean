import Derived.Test.YtogfcodccbcncaaGreatDoorProg
import Derived.Test.YtogfcodccbcncaaGreatDoorRows
import Derived.JoinedOf
set_option linter.unusedVariables false
set_option linter.unusedSimpArgs false
namespace Go.Proofs.YtogfcodccbcncaaGreatDoor
open Go
theorem zmv:laidOutB Tryz.pinned.checked.prog=true:=by kernel_rfl
theorem ziq:mapsRowed Tryz.pinned.checked.prog=true:=by kernel_rfl
theorem znv:(Rows.vehicleChecksRow.inPlace == Tryz.pinned.checked.prog.inPlace 8)=true:=by kernel_rfl
theorem zpo:(Rows.vehicleChecksRow.unfollowed == Tryz.pinned.checked.prog.unfollowed 8)=true:=by kernel_rfl
theorem zus:(Rows.vehicleChecksRow.recurses == Tryz.pinned.checked.prog.recurses 8)=true:=by kernel_rfl
theorem zjz:(Rows.vehicleChecksRow.named == Tryz.pinned.checked.prog.varsNamed 8)=true:=by kernel_rfl
theorem zkz:(Tryz.pinned.checked.prog.stops == [])=true:=by kernel_rfl
theorem zlz:(Tryz.pinned.checked.prog.stopKnobs == [])=true:=by kernel_rfl
theorem zmz:Tryz.pinned.checked.prog.stopsHeard=true:=by kernel_rfl
theorem znz:Tryz.pinned.checked.prog.mayEnter=true:=by kernel_rfl
theorem zzw:(Rows.vehicleChecksRow.lifted == Tryz.pinned.checked.prog.liftsFinal)=true:=by kernel_rfl
theorem zhca:(Tryz.pinned.checked.prog.make == some Rows.vehicleChecksRow.make)=true:=by kernel_rfl
theorem zoz:(Rows.vehicleChecksRow.plainKeys == Tryz.pinned.checked.prog.plainKeys)=true:=by kernel_rfl
end Go.Proofs.YtogfcodccbcncaaGreatDoor

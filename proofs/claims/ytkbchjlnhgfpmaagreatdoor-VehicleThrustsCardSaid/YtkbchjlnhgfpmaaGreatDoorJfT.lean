import Derived.Test.YtkbchjlnhgfpmaaGreatDoorProg
import Derived.Test.YtkbchjlnhgfpmaaGreatDoorRows
import Derived.JoinedOf
set_option linter.unusedVariables false
set_option linter.unusedSimpArgs false
namespace Go.Proofs.YtkbchjlnhgfpmaaGreatDoor
open Go
theorem R3:laidOutB Tryz.pinned.checked.prog=true:=by kernel_rfl
theorem zjx:mapsRowed Tryz.pinned.checked.prog=true:=by kernel_rfl
theorem R4:(Rows.vehicleThrustsRow.inPlace == Tryz.pinned.checked.prog.inPlace 3)=true:=by kernel_rfl
theorem zju:(Rows.vehicleThrustsRow.unfollowed == Tryz.pinned.checked.prog.unfollowed 3)=true:=by kernel_rfl
theorem zcz:(Rows.vehicleThrustsRow.recurses == Tryz.pinned.checked.prog.recurses 3)=true:=by kernel_rfl
theorem R5:(Rows.vehicleThrustsRow.named == Tryz.pinned.checked.prog.varsNamed 3)=true:=by kernel_rfl
theorem R6:(Tryz.pinned.checked.prog.stops == [])=true:=by kernel_rfl
theorem R7:(Tryz.pinned.checked.prog.stopKnobs == [])=true:=by kernel_rfl
theorem R8:Tryz.pinned.checked.prog.stopsHeard=true:=by kernel_rfl
theorem R9:Tryz.pinned.checked.prog.mayEnter=true:=by kernel_rfl
theorem R_:(Rows.vehicleThrustsRow.lifted == Tryz.pinned.checked.prog.liftsFinal)=true:=by kernel_rfl
theorem Sa:(Tryz.pinned.checked.prog.make == some Rows.vehicleThrustsRow.make)=true:=by kernel_rfl
theorem Sb:(Rows.vehicleThrustsRow.plainKeys == Tryz.pinned.checked.prog.plainKeys)=true:=by kernel_rfl
end Go.Proofs.YtkbchjlnhgfpmaaGreatDoor

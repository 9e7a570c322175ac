import Derived.Test.YtdjgnbkclcjiiaaGreatDoorProg
import Derived.Test.YtdjgnbkclcjiiaaGreatDoorRows
import Derived.JoinedOf
set_option linter.unusedVariables false
set_option linter.unusedSimpArgs false
namespace Go.Proofs.YtdjgnbkclcjiiaaGreatDoor
open Go
theorem zdt:laidOutB Tryz.pinned.checked.prog=true:=by kernel_rfl
theorem zmp:mapsRowed Tryz.pinned.checked.prog=true:=by kernel_rfl
theorem zet:(Rows.countdownTurnsRow.inPlace == Tryz.pinned.checked.prog.inPlace 7)=true:=by kernel_rfl
theorem zgn:(Rows.countdownTurnsRow.unfollowed == Tryz.pinned.checked.prog.unfollowed 7)=true:=by kernel_rfl
theorem zvq:(Rows.countdownTurnsRow.recurses == Tryz.pinned.checked.prog.recurses 7)=true:=by kernel_rfl
theorem zxw:(Rows.countdownTurnsRow.named == Tryz.pinned.checked.prog.varsNamed 7)=true:=by kernel_rfl
theorem zyw:(Tryz.pinned.checked.prog.stops == [])=true:=by kernel_rfl
theorem zzw:(Tryz.pinned.checked.prog.stopKnobs == [])=true:=by kernel_rfl
theorem zax:Tryz.pinned.checked.prog.stopsHeard=true:=by kernel_rfl
theorem zbx:Tryz.pinned.checked.prog.mayEnter=true:=by kernel_rfl
theorem zhv:(Rows.countdownTurnsRow.lifted == Tryz.pinned.checked.prog.liftsFinal)=true:=by kernel_rfl
theorem zfz:(Tryz.pinned.checked.prog.make == some Rows.countdownTurnsRow.make)=true:=by kernel_rfl
theorem zcx:(Rows.countdownTurnsRow.plainKeys == Tryz.pinned.checked.prog.plainKeys)=true:=by kernel_rfl
end Go.Proofs.YtdjgnbkclcjiiaaGreatDoor

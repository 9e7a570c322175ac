import Derived.Test.YtdjgnbkclcjiiaaGreatDoorProg
import Derived.Test.YtdjgnbkclcjiiaaGreatDoorRows
import Derived.JoinedOf
set_option linter.unusedVariables false
set_option linter.unusedSimpArgs false
namespace Go.Proofs.YtdjgnbkclcjiiaaGreatDoor
open Go
theorem zct:laidOutB Tryz.pinned.checked.prog=true:=by kernel_rfl
theorem zmp:mapsRowed Tryz.pinned.checked.prog=true:=by kernel_rfl
theorem zdt:(Rows.countdownKnowsRow.inPlace == Tryz.pinned.checked.prog.inPlace 8)=true:=by kernel_rfl
theorem zjn:(Rows.countdownKnowsRow.unfollowed == Tryz.pinned.checked.prog.unfollowed 8)=true:=by kernel_rfl
theorem ztq:(Rows.countdownKnowsRow.recurses == Tryz.pinned.checked.prog.recurses 8)=true:=by kernel_rfl
theorem zvw:(Rows.countdownKnowsRow.named == Tryz.pinned.checked.prog.varsNamed 8)=true:=by kernel_rfl
theorem zww:(Tryz.pinned.checked.prog.stops == [])=true:=by kernel_rfl
theorem zxw:(Tryz.pinned.checked.prog.stopKnobs == [])=true:=by kernel_rfl
theorem zyw:Tryz.pinned.checked.prog.stopsHeard=true:=by kernel_rfl
theorem zzw:Tryz.pinned.checked.prog.mayEnter=true:=by kernel_rfl
theorem zkv:(Rows.countdownKnowsRow.lifted == Tryz.pinned.checked.prog.liftsFinal)=true:=by kernel_rfl
theorem zbz:(Tryz.pinned.checked.prog.make == some Rows.countdownKnowsRow.make)=true:=by kernel_rfl
theorem zax:(Rows.countdownKnowsRow.plainKeys == Tryz.pinned.checked.prog.plainKeys)=true:=by kernel_rfl
end Go.Proofs.YtdjgnbkclcjiiaaGreatDoor

import Derived.Test.YtdjgnbkclcjiiaaGreatDoorProg
import Derived.Test.YtdjgnbkclcjiiaaGreatDoorRows
import Derived.JoinedOf
set_option linter.unusedVariables false
set_option linter.unusedSimpArgs false
namespace Go.Proofs.YtdjgnbkclcjiiaaGreatDoor
open Go
theorem zvt:laidOutB Tryz.pinned.checked.prog=true:=by kernel_rfl
theorem zbq:mapsRowed Tryz.pinned.checked.prog=true:=by kernel_rfl
theorem zwt:(Rows.countdownJudgesRow.inPlace == Tryz.pinned.checked.prog.inPlace 6)=true:=by kernel_rfl
theorem zun:(Rows.countdownJudgesRow.unfollowed == Tryz.pinned.checked.prog.unfollowed 6)=true:=by kernel_rfl
theorem zir:(Rows.countdownJudgesRow.recurses == Tryz.pinned.checked.prog.recurses 6)=true:=by kernel_rfl
theorem zox:(Rows.countdownJudgesRow.named == Tryz.pinned.checked.prog.varsNamed 6)=true:=by kernel_rfl
theorem zpx:(Tryz.pinned.checked.prog.stops == [])=true:=by kernel_rfl
theorem zqx:(Tryz.pinned.checked.prog.stopKnobs == [])=true:=by kernel_rfl
theorem zrx:Tryz.pinned.checked.prog.stopsHeard=true:=by kernel_rfl
theorem zsx:Tryz.pinned.checked.prog.mayEnter=true:=by kernel_rfl
theorem zaw:(Rows.countdownJudgesRow.lifted == Tryz.pinned.checked.prog.liftsFinal)=true:=by kernel_rfl
theorem zbaa:(Tryz.pinned.checked.prog.make == some Rows.countdownJudgesRow.make)=true:=by kernel_rfl
theorem ztx:(Rows.countdownJudgesRow.plainKeys == Tryz.pinned.checked.prog.plainKeys)=true:=by kernel_rfl
end Go.Proofs.YtdjgnbkclcjiiaaGreatDoor

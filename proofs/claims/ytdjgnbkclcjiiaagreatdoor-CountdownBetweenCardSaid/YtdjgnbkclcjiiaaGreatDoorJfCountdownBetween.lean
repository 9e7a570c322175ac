import Derived.Test.YtdjgnbkclcjiiaaGreatDoorProg
import Derived.Test.YtdjgnbkclcjiiaaGreatDoorRows
import Derived.JoinedOf
set_option linter.unusedVariables false
set_option linter.unusedSimpArgs false
namespace Go.Proofs.YtdjgnbkclcjiiaaGreatDoor
open Go
theorem zls:laidOutB Tryz.pinned.checked.prog=true:=by kernel_rfl
theorem zxo:mapsRowed Tryz.pinned.checked.prog=true:=by kernel_rfl
theorem zms:(Rows.countdownBetweenRow.inPlace == Tryz.pinned.checked.prog.inPlace 9)=true:=by kernel_rfl
theorem zum:(Rows.countdownBetweenRow.unfollowed == Tryz.pinned.checked.prog.unfollowed 9)=true:=by kernel_rfl
theorem zgq:(Rows.countdownBetweenRow.recurses == Tryz.pinned.checked.prog.recurses 9)=true:=by kernel_rfl
theorem zdw:(Rows.countdownBetweenRow.named == Tryz.pinned.checked.prog.varsNamed 9)=true:=by kernel_rfl
theorem zew:(Tryz.pinned.checked.prog.stops == [])=true:=by kernel_rfl
theorem zfw:(Tryz.pinned.checked.prog.stopKnobs == [])=true:=by kernel_rfl
theorem zgw:Tryz.pinned.checked.prog.stopsHeard=true:=by kernel_rfl
theorem zhw:Tryz.pinned.checked.prog.mayEnter=true:=by kernel_rfl
theorem zqu:(Rows.countdownBetweenRow.lifted == Tryz.pinned.checked.prog.liftsFinal)=true:=by kernel_rfl
theorem zey:(Tryz.pinned.checked.prog.make == some Rows.countdownBetweenRow.make)=true:=by kernel_rfl
theorem ziw:(Rows.countdownBetweenRow.plainKeys == Tryz.pinned.checked.prog.plainKeys)=true:=by kernel_rfl
end Go.Proofs.YtdjgnbkclcjiiaaGreatDoor

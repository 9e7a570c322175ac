import Derived.Test.YtdjgnbkclcjiiaaGreatDoorProg
import Derived.Test.YtdjgnbkclcjiiaaGreatDoorRows
import Derived.JoinedOf
set_option linter.unusedVariables false
set_option linter.unusedSimpArgs false
namespace Go.Proofs.YtdjgnbkclcjiiaaGreatDoor
open Go
theorem zpr:laidOutB Tryz.pinned.checked.prog=true:=by kernel_rfl
theorem zko:mapsRowed Tryz.pinned.checked.prog=true:=by kernel_rfl
theorem zqr:(Rows.countdownHoldsRow.inPlace == Tryz.pinned.checked.prog.inPlace 10)=true:=by kernel_rfl
theorem zmm:(Rows.countdownHoldsRow.unfollowed == Tryz.pinned.checked.prog.unfollowed 10)=true:=by kernel_rfl
theorem zrp:(Rows.countdownHoldsRow.recurses == Tryz.pinned.checked.prog.recurses 10)=true:=by kernel_rfl
theorem zuu:(Rows.countdownHoldsRow.named == Tryz.pinned.checked.prog.varsNamed 10)=true:=by kernel_rfl
theorem zvu:(Tryz.pinned.checked.prog.stops == [])=true:=by kernel_rfl
theorem zwu:(Tryz.pinned.checked.prog.stopKnobs == [])=true:=by kernel_rfl
theorem zxu:Tryz.pinned.checked.prog.stopsHeard=true:=by kernel_rfl
theorem zyu:Tryz.pinned.checked.prog.mayEnter=true:=by kernel_rfl
theorem zkt:(Rows.countdownHoldsRow.lifted == Tryz.pinned.checked.prog.liftsFinal)=true:=by kernel_rfl
theorem zcx:(Tryz.pinned.checked.prog.make == some Rows.countdownHoldsRow.make)=true:=by kernel_rfl
theorem zzu:(Rows.countdownHoldsRow.plainKeys == Tryz.pinned.checked.prog.plainKeys)=true:=by kernel_rfl
end Go.Proofs.YtdjgnbkclcjiiaaGreatDoor

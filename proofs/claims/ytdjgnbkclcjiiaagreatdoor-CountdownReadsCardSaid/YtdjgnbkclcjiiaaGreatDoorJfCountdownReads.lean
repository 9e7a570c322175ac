import Derived.Test.YtdjgnbkclcjiiaaGreatDoorProg
import Derived.Test.YtdjgnbkclcjiiaaGreatDoorRows
import Derived.JoinedOf
set_option linter.unusedVariables false
set_option linter.unusedSimpArgs false
namespace Go.Proofs.YtdjgnbkclcjiiaaGreatDoor
open Go
theorem zmu:laidOutB Tryz.pinned.checked.prog=true:=by kernel_rfl
theorem zvq:mapsRowed Tryz.pinned.checked.prog=true:=by kernel_rfl
theorem znu:(Rows.countdownReadsRow.inPlace == Tryz.pinned.checked.prog.inPlace 5)=true:=by kernel_rfl
theorem zgo:(Rows.countdownReadsRow.unfollowed == Tryz.pinned.checked.prog.unfollowed 5)=true:=by kernel_rfl
theorem zas:(Rows.countdownReadsRow.recurses == Tryz.pinned.checked.prog.recurses 5)=true:=by kernel_rfl
theorem zty:(Rows.countdownReadsRow.named == Tryz.pinned.checked.prog.varsNamed 5)=true:=by kernel_rfl
theorem zuy:(Tryz.pinned.checked.prog.stops == [])=true:=by kernel_rfl
theorem zvy:(Tryz.pinned.checked.prog.stopKnobs == [])=true:=by kernel_rfl
theorem zwy:Tryz.pinned.checked.prog.stopsHeard=true:=by kernel_rfl
theorem zxy:Tryz.pinned.checked.prog.mayEnter=true:=by kernel_rfl
theorem zzw:(Rows.countdownReadsRow.lifted == Tryz.pinned.checked.prog.liftsFinal)=true:=by kernel_rfl
theorem zdba:(Tryz.pinned.checked.prog.make == some Rows.countdownReadsRow.make)=true:=by kernel_rfl
theorem zyy:(Rows.countdownReadsRow.plainKeys == Tryz.pinned.checked.prog.plainKeys)=true:=by kernel_rfl
end Go.Proofs.YtdjgnbkclcjiiaaGreatDoor

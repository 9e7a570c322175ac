import Derived.Test.YtdjgnbkclcjiiaaGreatDoorProg
import Derived.Test.YtdjgnbkclcjiiaaGreatDoorRows
import Derived.JoinedOf
set_option linter.unusedVariables false
set_option linter.unusedSimpArgs false
namespace Go.Proofs.YtdjgnbkclcjiiaaGreatDoor
open Go
theorem zpv:laidOutB Tryz.pinned.checked.prog=true:=by kernel_rfl
theorem zor:mapsRowed Tryz.pinned.checked.prog=true:=by kernel_rfl
theorem zqv:(Rows.countdownRulesRow.inPlace == Tryz.pinned.checked.prog.inPlace 4)=true:=by kernel_rfl
theorem zdp:(Rows.countdownRulesRow.unfollowed == Tryz.pinned.checked.prog.unfollowed 4)=true:=by kernel_rfl
theorem zxs:(Rows.countdownRulesRow.recurses == Tryz.pinned.checked.prog.recurses 4)=true:=by kernel_rfl
theorem zcaa:(Rows.countdownRulesRow.named == Tryz.pinned.checked.prog.varsNamed 4)=true:=by kernel_rfl
theorem zdaa:(Tryz.pinned.checked.prog.stops == [])=true:=by kernel_rfl
theorem zeaa:(Tryz.pinned.checked.prog.stopKnobs == [])=true:=by kernel_rfl
theorem zfaa:Tryz.pinned.checked.prog.stopsHeard=true:=by kernel_rfl
theorem zgaa:Tryz.pinned.checked.prog.mayEnter=true:=by kernel_rfl
theorem zey:(Rows.countdownRulesRow.lifted == Tryz.pinned.checked.prog.liftsFinal)=true:=by kernel_rfl
theorem zvca:(Tryz.pinned.checked.prog.make == some Rows.countdownRulesRow.make)=true:=by kernel_rfl
theorem zhaa:(Rows.countdownRulesRow.plainKeys == Tryz.pinned.checked.prog.plainKeys)=true:=by kernel_rfl
end Go.Proofs.YtdjgnbkclcjiiaaGreatDoor

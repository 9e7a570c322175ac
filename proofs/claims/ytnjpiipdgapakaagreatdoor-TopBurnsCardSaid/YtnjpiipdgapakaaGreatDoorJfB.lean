import Derived.Test.YtnjpiipdgapakaaGreatDoorProg
import Derived.Test.YtnjpiipdgapakaaGreatDoorRows
import Derived.JoinedOf
set_option linter.unusedVariables false
set_option linter.unusedSimpArgs false
namespace Go.Proofs.YtnjpiipdgapakaaGreatDoor
open Go
theorem WO:laidOutB Tryz.pinned.checked.prog=true:=by kernel_rfl
theorem WQ:mapsRowed Tryz.pinned.checked.prog=true:=by kernel_rfl
theorem WR:(Rows.topBurnsRow.inPlace == Tryz.pinned.checked.prog.inPlace 3)=true:=by kernel_rfl
theorem WS:(Rows.topBurnsRow.unfollowed == Tryz.pinned.checked.prog.unfollowed 3)=true:=by kernel_rfl
theorem WT:(Rows.topBurnsRow.recurses == Tryz.pinned.checked.prog.recurses 3)=true:=by kernel_rfl
theorem Ng:(Rows.topBurnsRow.named == Tryz.pinned.checked.prog.varsNamed 3)=true:=by kernel_rfl
theorem Nh:(Tryz.pinned.checked.prog.stops == [])=true:=by kernel_rfl
theorem Ni:(Tryz.pinned.checked.prog.stopKnobs == [])=true:=by kernel_rfl
theorem Nj:Tryz.pinned.checked.prog.stopsHeard=true:=by kernel_rfl
theorem Nk:Tryz.pinned.checked.prog.mayEnter=true:=by kernel_rfl
theorem Nn:(Rows.topBurnsRow.lifted == Tryz.pinned.checked.prog.liftsFinal)=true:=by kernel_rfl
theorem No:(Tryz.pinned.checked.prog.make == some Rows.topBurnsRow.make)=true:=by kernel_rfl
theorem Np:(Rows.topBurnsRow.plainKeys == Tryz.pinned.checked.prog.plainKeys)=true:=by kernel_rfl
end Go.Proofs.YtnjpiipdgapakaaGreatDoor

import Derived.Test.YtdjgnbkclcjiiaaGreatDoorM2
import Derived.Test.YtdjgnbkclcjiiaaGreatDoorRb
set_option linter.unusedVariables false
set_option linter.unusedSimpArgs false
set_option maxRecDepth 4000
namespace Go.Proofs.YtdjgnbkclcjiiaaGreatDoor
open Go Go.RowKit Vc
attribute [local irreducible] Go.Calls
theorem zwv(r:Rl):nodesR r=1 + nodesL r.ks:=by cases r;rfl
theorem zpm(r:Rl):rightR r=if r.op=1 then atomB r else bareB r && kidsB r.op r.ks.length && rightL r.ks:=by cases r;rw [rightR];rfl
end Go.Proofs.YtdjgnbkclcjiiaaGreatDoor

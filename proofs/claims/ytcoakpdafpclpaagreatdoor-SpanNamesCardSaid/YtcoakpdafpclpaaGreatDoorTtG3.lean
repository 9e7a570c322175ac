/- What the walks of functions come to (written by program). -/
import Derived.Test.YtcoakpdafpclpaaGreatDoorTtG1
set_option linter.unusedVariables false
set_option maxRecDepth 100000
namespace Go.Proofs.YtcoakpdafpclpaaGreatDoor
open Go Go.RowKit
end Go.Proofs.YtcoakpdafpclpaaGreatDoor

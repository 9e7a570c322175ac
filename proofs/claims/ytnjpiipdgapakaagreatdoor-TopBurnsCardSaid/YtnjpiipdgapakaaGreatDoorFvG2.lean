import Derived.Test.YtnjpiipdgapakaaGreatDoorG0
set_option linter.unusedVariables false
set_option maxRecDepth 100000
namespace Go.Proofs.YtnjpiipdgapakaaGreatDoor
open Go Go.RowKit
end Go.Proofs.YtnjpiipdgapakaaGreatDoor

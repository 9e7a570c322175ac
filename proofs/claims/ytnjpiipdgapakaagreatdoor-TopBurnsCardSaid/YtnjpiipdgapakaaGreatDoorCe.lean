import Derived.Test.YtnjpiipdgapakaaGreatDoorCd
set_option linter.unusedVariables false
set_option linter.unusedSimpArgs false
set_option maxRecDepth 4000
namespace Go.Proofs.YtnjpiipdgapakaaGreatDoor
open Go Go.RowKit Vc
attribute [local irreducible] Go.Calls
end Go.Proofs.YtnjpiipdgapakaaGreatDoor

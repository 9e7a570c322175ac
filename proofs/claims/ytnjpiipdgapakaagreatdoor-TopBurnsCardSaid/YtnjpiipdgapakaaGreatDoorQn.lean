import Derived.Test.YtnjpiipdgapakaaGreatDoorQb
import Derived.Test.YtnjpiipdgapakaaGreatDoorAwv
set_option linter.unusedVariables false
set_option linter.unusedSimpArgs false
namespace Go.Proofs.YtnjpiipdgapakaaGreatDoor
open Go Go.RowKit Vc
attribute [local irreducible] Go.Calls
end Go.Proofs.YtnjpiipdgapakaaGreatDoor

import Derived.Test.YtkjmhcejdiglfacGreatDoorQb
import Derived.Test.YtkjmhcejdiglfacGreatDoorAwv
set_option linter.unusedVariables false
set_option linter.unusedSimpArgs false
namespace Go.Proofs.YtkjmhcejdiglfacGreatDoor
open Go Go.RowKit Vc
attribute [local irreducible] Go.Calls
end Go.Proofs.YtkjmhcejdiglfacGreatDoor

import Derived.Test.YtkjmhcejdiglfacGreatDoorQa
set_option linter.unusedVariables false
set_option linter.unusedSimpArgs false
namespace Go.Proofs.YtkjmhcejdiglfacGreatDoor
open Go Go.RowKit Vc
attribute [local irreducible] Go.Calls
end Go.Proofs.YtkjmhcejdiglfacGreatDoor

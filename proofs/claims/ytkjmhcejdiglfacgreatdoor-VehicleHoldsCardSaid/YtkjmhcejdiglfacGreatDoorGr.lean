import Derived.Test.YtkjmhcejdiglfacGreatDoorG0
set_option linter.unusedVariables false
set_option maxRecDepth 100000
namespace Go.Proofs.YtkjmhcejdiglfacGreatDoor
open Go Go.RowKit
end Go.Proofs.YtkjmhcejdiglfacGreatDoor

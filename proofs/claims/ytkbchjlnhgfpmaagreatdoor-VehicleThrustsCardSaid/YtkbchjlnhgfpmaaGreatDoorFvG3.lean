import Derived.Test.YtkbchjlnhgfpmaaGreatDoorG0
set_option linter.unusedVariables false
set_option maxRecDepth 100000
namespace Go.Proofs.YtkbchjlnhgfpmaaGreatDoor
open Go Go.RowKit
open Vc (iv sq rd)
end Go.Proofs.YtkbchjlnhgfpmaaGreatDoor

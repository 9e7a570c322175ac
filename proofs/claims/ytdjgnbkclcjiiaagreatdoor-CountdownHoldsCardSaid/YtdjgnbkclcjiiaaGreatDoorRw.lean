import Derived.Test.YtdjgnbkclcjiiaaGreatDoorRv
set_option linter.unusedVariables false
set_option linter.unusedSimpArgs false
namespace Go.Proofs.YtdjgnbkclcjiiaaGreatDoor
open Go Go.RowKit Vc
end Go.Proofs.YtdjgnbkclcjiiaaGreatDoor

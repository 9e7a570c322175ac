import Derived.Test.YtkbchjlnhgfpmaaGreatDoorFvA
set_option linter.unusedVariables false
set_option linter.unusedSimpArgs false
namespace Vc
open Go Go.RowKit
end Vc

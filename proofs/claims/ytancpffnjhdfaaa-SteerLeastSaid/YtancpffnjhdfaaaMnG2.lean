/- What the walks of functions come to (written by program). -/
import Derived.Test.YtancpffnjhdfaaaMnG1
set_option linter.unusedVariables false
set_option maxRecDepth 100000
namespace Go.Proofs.Ytancpffnjhdfaaa
open Go Go.RowKit
end Go.Proofs.Ytancpffnjhdfaaa

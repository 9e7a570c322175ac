/- What the walks of functions come to (written by program). -/
import Derived.Test.YtbpcdmjjdnjmbaaGreatKaG1
set_option linter.unusedVariables false
set_option maxRecDepth 100000
namespace Go.Proofs.YtbpcdmjjdnjmbaaGreat
open Go Go.RowKit
end Go.Proofs.YtbpcdmjjdnjmbaaGreat

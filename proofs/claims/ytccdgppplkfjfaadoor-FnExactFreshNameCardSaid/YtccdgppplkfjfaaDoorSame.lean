/- Trees compared by both programs. -/
import Derived.Test.YtccdgppplkfjfaaDoorRd
namespace Go.Proofs.YtccdgppplkfjfaaDoor
open Go Go.Ax Go.Proofs
set_option linter.unusedVariables false
set_option linter.unusedSimpArgs false
set_option maxRecDepth 20000

end Go.Proofs.YtccdgppplkfjfaaDoor

/- Cameras in the laws: copied, compared, marked, held. No condition. -/
import Derived.Test.YtafipjhalboefaaGreatTe
namespace Go.Proofs.YtafipjhalboefaaGreat
open Go Go.Vx
set_option linter.unusedVariables false
set_option linter.unusedSimpArgs false
set_option maxHeartbeats 600000
set_option maxRecDepth 100000

end Go.Proofs.YtafipjhalboefaaGreat

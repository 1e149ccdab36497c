/- The set of a layout. No condition. -/
import Derived.Test.YtafipjhalboefaaGreatSi
namespace Go.Proofs.YtafipjhalboefaaGreat
open Go Go.Vx
set_option linter.unusedVariables false
set_option linter.unusedSimpArgs false
set_option maxHeartbeats 600000
set_option maxRecDepth 100000

def seqFine (l : Layout) (bits : Int) : Prop := layoutOk l ∧ 3 ≤ bits ∧ bits ≤ 8
instance (l : Layout) (bits : Int) : Decidable (seqFine l bits) := by unfold seqFine; infer_instance

end Go.Proofs.YtafipjhalboefaaGreat

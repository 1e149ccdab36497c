/- Scenes: a filmed scene is right and has the dots that are told. No condition. -/
import Derived.Test.YtafipjhalboefaaGreatTa
namespace Go.Proofs.YtafipjhalboefaaGreat
open Go Go.Vx
set_option linter.unusedVariables false
set_option linter.unusedSimpArgs false
set_option maxHeartbeats 600000
set_option maxRecDepth 100000

def placesTo (c : Cur) : Nat → List Int × Cur
  | 0 => ([], c)
  | i + 1 => ((placesTo c i).1 ++ [below (placesTo c i).2 10000], belowNext (placesTo c i).2 10000)
def places (l : List UInt8) : List Int := (placesTo (curNext (curNew l)) 12).1

def picOk (p : Pic) : Prop := (1 ≤ p.wide ∧ p.wide ≤ 256) ∧ (1 ≤ p.high ∧ p.high ≤ 256) ∧ (p.dots.length : Int) = p.wide * p.high
instance (p : Pic) : Decidable (picOk p) := by unfold picOk; infer_instance

end Go.Proofs.YtafipjhalboefaaGreat

/- Where one stands in a layout. No condition. -/
import Derived.Test.YtafipjhalboefaaGreatSh
namespace Go.Proofs.YtafipjhalboefaaGreat
open Go Go.Vx
set_option linter.unusedVariables false
set_option linter.unusedSimpArgs false
set_option maxHeartbeats 600000
set_option maxRecDepth 100000

def firstGo (w : List Int) (x : Int) : Nat → Nat → Int
  | 0, _ => -1
  | n + 1, i => if rd w i = x then i else firstGo w x n (i + 1)
def first (w : List Int) (x : Int) : Int := firstGo w x w.length 0
end Go.Proofs.YtafipjhalboefaaGreat

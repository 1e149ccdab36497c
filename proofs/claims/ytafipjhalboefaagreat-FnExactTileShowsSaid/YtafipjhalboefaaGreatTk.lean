/- Rows of signs. No condition. -/
import Derived.Test.YtafipjhalboefaaGreatSm
namespace Go.Proofs.YtafipjhalboefaaGreat
open Go Go.Vx
set_option linter.unusedVariables false
set_option linter.unusedSimpArgs false
set_option maxHeartbeats 600000
set_option maxRecDepth 100000

def signAt (t : List UInt8) (j : Nat) : Prop := (rb t j).toNat = 48 ∨ (rb t j).toNat = 49
instance (t : List UInt8) (j : Nat) : Decidable (signAt t j) := by unfold signAt; infer_instance
def allSigns (t : List UInt8) : Prop := ∀ j, j < t.length → signAt t j
instance (t : List UInt8) : Decidable (allSigns t) := by unfold allSigns; infer_instance
def rowOk (t : List UInt8) : Prop := t.length ≤ 400000 ∧ allSigns t
instance (t : List UInt8) : Decidable (rowOk t) := by unfold rowOk; infer_instance
theorem _root_.Go.Vx.Nt.of {x : Int} {κ : Nat → Prop} (j : Nat) (h : x = (j : Int)) (g : κ j) : Nt x κ := .mk j (by omega) g
end Go.Proofs.YtafipjhalboefaaGreat

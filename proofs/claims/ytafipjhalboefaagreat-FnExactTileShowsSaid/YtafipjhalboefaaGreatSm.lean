/- Numbers read from text. No condition. -/
import Derived.Test.YtafipjhalboefaaGreatSc
namespace Go.Proofs.YtafipjhalboefaaGreat
open Go Go.Vx
set_option linter.unusedVariables false
set_option linter.unusedSimpArgs false
set_option maxHeartbeats 600000
set_option maxRecDepth 100000

def rb (t : List UInt8) (i : Nat) : UInt8 := t.getD i 0
theorem _root_.Go.Vx.Chr.at {l : List UInt8} {i : Nat} {κ : UInt8 → Prop} (h : i < l.length) (g : κ (rb l i)) : Chr l (i : Int) κ :=
  .mk (rb l i) (by omega) (by rw [Int.toNat_natCast]; simp [rb, h]) g
def digitAt (t : List UInt8) (j : Nat) : Prop := 48 ≤ (rb t j).toNat ∧ (rb t j).toNat ≤ 57
instance (t : List UInt8) (j : Nat) : Decidable (digitAt t j) := by unfold digitAt; infer_instance
def valTo (t : List UInt8) : Nat → Int
  | 0 => 0
  | i + 1 => 10 * valTo t i + ((rb t i).toNat - 48)
def readOk (t : List UInt8) : Prop := (1 ≤ t.length ∧ t.length ≤ 10) ∧ (∀ j, j < t.length → digitAt t j) ∧ valTo t t.length ≤ 1000000000 ∧ decimal (valTo t t.length) = t
instance (t : List UInt8) : Decidable (readOk t) := by unfold readOk; infer_instance
end Go.Proofs.YtafipjhalboefaaGreat

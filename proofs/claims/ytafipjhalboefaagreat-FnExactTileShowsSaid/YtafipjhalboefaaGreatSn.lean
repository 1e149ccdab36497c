/- The words of a line. No condition. -/
import Derived.Test.YtafipjhalboefaaGreatSm
namespace Go.Proofs.YtafipjhalboefaaGreat
open Go Go.Vx
set_option linter.unusedVariables false
set_option linter.unusedSimpArgs false
set_option maxHeartbeats 600000
set_option maxRecDepth 100000

/-- The words before place i, and where the next one begins. -/
def pS (t : List UInt8) : Nat → List (List UInt8) × Nat
  | 0 => ([], 0)
  | i + 1 => if i < t.length ∧ rb t i ≠ 32 then pS t i else
      (if (pS t i).2 < i then (pS t i).1 ++ [(t.drop (pS t i).2).take (i - (pS t i).2)] else (pS t i).1, i + 1)
def plain (t : List UInt8) (j : Nat) : Prop := 32 ≤ (rb t j).toNat ∧ (rb t j).toNat ≤ 126
instance (t : List UInt8) (j : Nat) : Decidable (plain t j) := by unfold plain; infer_instance
def partsOk (t : List UInt8) : Prop := t.length ≤ 600 ∧ (∀ j, j < t.length → plain t j) ∧ (pS t (t.length + 1)).1.length ≤ 12
instance (t : List UInt8) : Decidable (partsOk t) := by unfold partsOk; infer_instance
theorem _root_.Go.Vx.Cut.mid {n a b : Nat} {k : IntKind} {κ : Nat → Nat → Prop} (h : a ≤ b ∧ b ≤ n) (g : κ a b) : Cut n (some (.i k (a : Int))) (some (.i k (b : Int))) κ := by
  refine .mk a b ?_ g
  simp only [boundsOf]
  rw [if_pos (by omega)]
  simp

theorem _root_.Go.Vx.Cut.from {n : Nat} (a : Nat) {b : Nat} {x : Int} {k : IntKind} {κ : Nat → Nat → Prop} (h : x = (a : Int) ∧ a ≤ b ∧ b ≤ n) (g : κ a b) : Cut n (some (.i k x)) (some (.i k (b : Int))) κ := by
  obtain ⟨rfl, h⟩ := h
  exact Cut.mid h g

end Go.Proofs.YtafipjhalboefaaGreat

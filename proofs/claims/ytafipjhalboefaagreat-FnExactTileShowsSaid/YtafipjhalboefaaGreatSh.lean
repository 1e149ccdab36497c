/- Whether a layout is right, and where one stands in it. No condition. -/
import Derived.Test.YtafipjhalboefaaGreatSg
namespace Go.Proofs.YtafipjhalboefaaGreat
open Go Go.Vx
set_option linter.unusedVariables false
set_option linter.unusedSimpArgs false
set_option maxHeartbeats 600000
set_option maxRecDepth 100000

def whoOk (w : List Int) (i : Nat) : Prop := (-1 ≤ rd w i ∧ rd w i ≤ 5) ∧ ∀ k, k < i → ¬ (0 ≤ rd w i ∧ rd w k = rd w i)
instance (w : List Int) (i : Nat) : Decidable (whoOk w i) := by unfold whoOk; infer_instance
def layoutOk (l : Layout) : Prop := ¬ levelFor l.cols l.rows = 0 ∧ l.who.length = l.cols.length * l.rows.length ∧ ∀ i, i < l.who.length → whoOk l.who i
instance (l : Layout) : Decidable (layoutOk l) := by unfold layoutOk; infer_instance

theorem _root_.Go.Vx.Cut.to {i n : Nat} {k : IntKind} {κ : Nat → Nat → Prop} (h : i ≤ n) (g : κ 0 i) : Cut n none (some (.i k (i : Int))) κ := by
  refine .mk 0 i ?_ g
  simp only [boundsOf]
  rw [if_pos (by omega)]
  simp
theorem take_at {l : List Int} {m j : Nat} (k : IntKind) (h : j < m) (hl : j < l.length) : ((l.map (V.i k)).take m)[j]? = some (.i k (rd l j)) := by
  rw [List.getElem?_take_of_lt h]; exact rd_at k hl
theorem _root_.Go.Vx.Elt.t {k : IntKind} {l : List Int} {m j : Nat} {κ : V → Prop} (h : j < m ∧ j < l.length) (g : κ (.i k (rd l j))) : Elt ((l.map (V.i k)).take m) (j : Int) κ :=
  .mk _ (by omega) (by rw [Int.toNat_natCast]; exact take_at k h.1 h.2) g

end Go.Proofs.YtafipjhalboefaaGreat

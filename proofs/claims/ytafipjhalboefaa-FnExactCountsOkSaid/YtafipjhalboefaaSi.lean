/- Where one stands in a layout. No condition. -/
import Derived.Test.YtafipjhalboefaaSh
namespace Go.Proofs.Ytafipjhalboefaa
open Go Go.Vx
set_option linter.unusedVariables false
set_option linter.unusedSimpArgs false
set_option maxHeartbeats 600000
set_option maxRecDepth 100000

def firstGo (w : List Int) (x : Int) : Nat → Nat → Int
  | 0, _ => -1
  | n + 1, i => if rd w i = x then i else firstGo w x n (i + 1)
def first (w : List Int) (x : Int) : Int := firstGo w x w.length 0
theorem first_at {w : List Int} {x : Int} {i : Nat} (h : firstGo w x (w.length - i) i = first w x) (hi : i < w.length) (he : rd w i = x) : first w x = i := by
  rw [← h, show w.length - i = (w.length - (i + 1)) + 1 by omega, firstGo, if_pos he]
theorem first_next {w : List Int} {x : Int} {i : Nat} (h : firstGo w x (w.length - i) i = first w x) (hi : i < w.length) (he : ¬ rd w i = x) : firstGo w x (w.length - (i + 1)) (i + 1) = first w x := by
  rw [← h, show w.length - i = (w.length - (i + 1)) + 1 by omega, firstGo, if_neg he]
theorem first_no {w : List Int} {x : Int} {i : Nat} (h : firstGo w x (w.length - i) i = first w x) (hi : ¬ i < w.length) : first w x = -1 := by
  rw [← h, show w.length - i = 0 by omega, firstGo]

def cellOf (l : Layout) (who : Int) : Int := if layoutOk l ∧ 0 ≤ who then first l.who who else -1

theorem szLayout_ge {l : Layout} {x : Int} (h : ¬ szLayout l x < 0) : szLayout l x ≤ x ∧ (l.cols.length : Int) ≤ x ∧ (l.rows.length : Int) ≤ x ∧ (l.who.length : Int) ≤ x := by
  have c1 := sz1_le l.cols.length x
  have c2 := sz1_le l.rows.length (sz1 l.cols.length x)
  have c3 := sz1_le l.who.length (sz1 l.rows.length (sz1 l.cols.length x))
  unfold szLayout at h ⊢
  split at h
  · omega
  · rw [if_neg (by assumption)]
    split at h
    · omega
    · rw [if_neg (by assumption)]
      split at h
      · omega
      · rw [if_neg (by assumption)]; omega

end Go.Proofs.Ytafipjhalboefaa

/- Sides, squares, levels. No condition. -/
import Derived.Test.YtafipjhalboefaaSe
namespace Go.Proofs.Ytafipjhalboefaa
open Go Go.Vx
set_option linter.unusedVariables false
set_option linter.unusedSimpArgs false
set_option maxHeartbeats 600000
set_option maxRecDepth 100000

def sumI (l : List Int) : Nat → Int
  | 0 => 0
  | i + 1 => sumI l i + rd l i
def sidesOk (l : List Int) : Prop := (1 ≤ l.length ∧ l.length ≤ 4) ∧ ∀ j, j < l.length → 1 ≤ rd l j ∧ rd l j ≤ 8
instance (l : List Int) : Decidable (sidesOk l) := by unfold sidesOk; infer_instance
def sideSum (l : List Int) : Int := if sidesOk l then sumI l l.length else 0

theorem sumI_fit {l : List Int} : ∀ (i : Nat), (∀ j, j < i → 1 ≤ rd l j ∧ rd l j ≤ 8) → 0 ≤ sumI l i ∧ sumI l i ≤ 8 * i
  | 0, _ => by simp [sumI]
  | i + 1, h => by
    have h1 := sumI_fit i (fun j hj => h j (by omega))
    have h2 := h i (by omega)
    simp only [sumI]
    omega

theorem sideSum_fit (l : List Int) : 0 ≤ sideSum l ∧ sideSum l ≤ 32 := by
  unfold sideSum
  split
  · rename_i h
    have := sumI_fit (l := l) l.length h.2
    have := h.1
    omega
  · omega

theorem sideSum_ok {l : List Int} {i : Nat} (h1 : 1 ≤ l.length ∧ l.length ≤ 4) (hi : i = l.length) (h : ∀ j, j < i → 1 ≤ rd l j ∧ rd l j ≤ 8) : sideSum l = sumI l i := by
  subst hi
  unfold sideSum
  rw [if_pos ⟨h1, h⟩]
theorem sideSum_len {l : List Int} (h : ¬ (1 ≤ l.length ∧ l.length ≤ 4)) : sideSum l = 0 := by
  unfold sideSum
  rw [if_neg (fun k => h k.1)]
theorem sideSum_bad {l : List Int} {i : Nat} (hi : i < l.length) (h : ¬ (1 ≤ rd l i ∧ rd l i ≤ 8)) : sideSum l = 0 := by
  unfold sideSum
  rw [if_neg (fun k => h (k.2 i hi))]

theorem all_next {p : Nat → Prop} {i : Nat} (h : ∀ j, j < i → p j) (hi : p i) : ∀ j, j < i + 1 → p j := fun j hj => by
  rcases Nat.lt_or_eq_of_le (Nat.le_of_lt_succ hj) with h1 | h1
  · exact h j h1
  · subst h1; exact hi

def levelSq (level : Int) : Int := if level = 1 then 16 else if level = 2 then 64 else if level = 3 then 256 else 0
end Go.Proofs.Ytafipjhalboefaa

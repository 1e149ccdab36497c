/- Levels of a layout. No condition. -/
import Derived.Test.YtafipjhalboefaaSf
namespace Go.Proofs.Ytafipjhalboefaa
open Go Go.Vx
set_option linter.unusedVariables false
set_option linter.unusedSimpArgs false
set_option maxHeartbeats 600000
set_option maxRecDepth 100000

def seqV (lvl bits : Int) (c r : List Int) : V := .ag [.i .i64 lvl, .i .i64 bits, iS c, iS r]
def squares (c r : List Int) : Int := sideSum c * sideSum r
theorem squares_fit (c r : List Int) : 0 ≤ squares c r ∧ squares c r ≤ 1024 := mul_fit (sideSum_fit c) (sideSum_fit r)
theorem squares_bad1 {c r : List Int} (h : sideSum c = 0) : squares c r = 0 := by unfold squares; rw [h, Int.zero_mul]
theorem squares_bad2 {c r : List Int} (h : sideSum r = 0) : squares c r = 0 := by unfold squares; rw [h, Int.mul_zero]

def seqOk (lvl bits : Int) (c r : List Int) : Bool := decide (1 ≤ squares c r ∧ squares c r ≤ levelSq lvl) && decide (3 ≤ bits ∧ bits ≤ 8)

def levelFor (c r : List Int) : Int := if seqOk 1 3 c r then 1 else if seqOk 2 3 c r then 2 else if seqOk 3 3 c r then 3 else 0
def LvI (c r : List Int) (i : Int) : Prop := (1 ≤ i ∧ i ≤ 4) ∧ (2 ≤ i → seqOk 1 3 c r = false) ∧ (3 ≤ i → seqOk 2 3 c r = false) ∧ (4 ≤ i → seqOk 3 3 c r = false)
theorem LvI.next {c r : List Int} {i : Int} (h : LvI c r i) (hi : i ≤ 3) (hf : seqOk i 3 c r = false) : LvI c r (i + 1) := by
  obtain ⟨h1, h2, h3, h4⟩ := h
  refine ⟨by omega, fun k => ?_, fun k => ?_, fun k => ?_⟩
  · by_cases h : i = 1
    · subst h; exact hf
    · exact h2 (by omega)
  · by_cases h : i = 2
    · subst h; exact hf
    · exact h3 (by omega)
  · by_cases h : i = 3
    · subst h; exact hf
    · exact h4 (by omega)
theorem LvI.at {c r : List Int} {i : Int} (h : LvI c r i) (hi : i ≤ 3) (hf : seqOk i 3 c r = true) : levelFor c r = i := by
  obtain ⟨h1, h2, h3, h4⟩ := h
  obtain rfl | rfl | rfl : i = 1 ∨ i = 2 ∨ i = 3 := by omega
  · simp [levelFor, hf]
  · simp [levelFor, hf, h2 (by omega)]
  · simp [levelFor, hf, h2 (by omega), h3 (by omega)]
theorem LvI.no {c r : List Int} {i : Int} (h : LvI c r i) (hi : ¬ i ≤ 3) : levelFor c r = 0 := by
  obtain ⟨h1, h2, h3, h4⟩ := h
  simp [levelFor, h2 (by omega), h3 (by omega), h4 (by omega)]

theorem sidesOk_of {l : List Int} (h : ¬ sideSum l = 0) : sidesOk l := Classical.byContradiction fun hn => h (by unfold sideSum; rw [if_neg hn])
theorem squares_sides {c r : List Int} (h : ¬ squares c r = 0) : sidesOk c ∧ sidesOk r :=
  ⟨sidesOk_of fun k => h (squares_bad1 k), sidesOk_of fun k => h (squares_bad2 k)⟩
theorem levelFor_sides {c r : List Int} (h : ¬ levelFor c r = 0) : sidesOk c ∧ sidesOk r := by
  refine squares_sides fun hs => h ?_
  simp [levelFor, seqOk, hs]
end Go.Proofs.Ytafipjhalboefaa

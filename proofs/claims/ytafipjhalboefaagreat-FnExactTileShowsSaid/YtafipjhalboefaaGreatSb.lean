/- Scenes, whole. No condition. -/
import Derived.Test.YtafipjhalboefaaGreatSa
namespace Go.Proofs.YtafipjhalboefaaGreat
open Go Go.Vx
set_option linter.unusedVariables false
set_option linter.unusedSimpArgs false
set_option maxHeartbeats 600000
set_option maxRecDepth 100000

def sceneOk (seed t wide high : Int) : Prop := (0 ≤ seed ∧ seed ≤ 999) ∧ (0 ≤ t ∧ t ≤ 9999) ∧ (1 ≤ wide ∧ wide ≤ 256) ∧ (1 ≤ high ∧ high ≤ 256)
instance (seed t wide high : Int) : Decidable (sceneOk seed t wide high) := by unfold sceneOk; infer_instance

structure Pic where
  wide : Int
  high : Int
  dots : List UInt8
  deriving DecidableEq
def picV (p : Pic) : V := .ag [.i .i64 p.wide, .i .i64 p.high, .s p.dots]

theorem wh_fit (wide high : Int) : ¬ (1 ≤ wide ∧ wide ≤ 256) ∨ ¬ (1 ≤ high ∧ high ≤ 256) ∨ 1 ≤ wide * high ∧ wide * high ≤ 65536 := by
  by_cases h : 1 ≤ wide ∧ wide ≤ 256
  · by_cases k : 1 ≤ high ∧ high ≤ 256
    · have := mul_fit (a := wide) (b := high) (A := 256) (B := 256) (by omega) (by omega)
      have h2 : 0 < wide * high := Int.mul_pos (by omega) (by omega)
      omega
    · exact .inr (.inl k)
  · exact .inl h

end Go.Proofs.YtafipjhalboefaaGreat

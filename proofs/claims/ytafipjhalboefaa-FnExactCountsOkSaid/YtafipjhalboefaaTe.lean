/- Cameras and their sources. No condition. -/
import Derived.Test.YtafipjhalboefaaSl
import Derived.Test.YtafipjhalboefaaSb
namespace Go.Proofs.Ytafipjhalboefaa
open Go Go.Vx
set_option linter.unusedVariables false
set_option linter.unusedSimpArgs false
set_option maxHeartbeats 600000
set_option maxRecDepth 100000


theorem _root_.Go.Vx.Shl.to {k : IntKind} {a b m : Int} {κ : Int → Prop} (e : k.wrap (a * 2 ^ min b.toNat k.bits) = m) (h : ¬ b < 0) (g : κ m) : Shl k a b κ := .mk h (by rw [e]; exact g)
theorem _root_.Go.Vx.Ar.u64 {x : Int} {κ : Int → Prop} (h : 0 ≤ x ∧ x ≤ 18446744073709551615) (g : κ x) : Ar .u64 x κ := by
  refine .fit ?_ g
  unfold IntKind.wrap
  simp [IntKind.bits, IntKind.signed]
  omega
theorem shl_fit {b : Int} (h : 3 ≤ b ∧ b ≤ 8) : ∃ m : Int, 8 ≤ m ∧ m ≤ 256 ∧ IntKind.i64.wrap (1 * 2 ^ min b.toNat IntKind.i64.bits) = m := by
  obtain rfl | rfl | rfl | rfl | rfl | rfl : b = 3 ∨ b = 4 ∨ b = 5 ∨ b = 6 ∨ b = 7 ∨ b = 8 := by omega
  · exact ⟨8, by omega, by omega, by decide⟩
  · exact ⟨16, by omega, by omega, by decide⟩
  · exact ⟨32, by omega, by omega, by decide⟩
  · exact ⟨64, by omega, by omega, by decide⟩
  · exact ⟨128, by omega, by omega, by decide⟩
  · exact ⟨256, by omega, by omega, by decide⟩

theorem seqOk_sides {lvl bits : Int} {c r : List Int} (h : seqOk lvl bits c r = true) : (sidesOk c ∧ sidesOk r) ∧ 3 ≤ bits ∧ bits ≤ 8 := by
  simp only [seqOk, Bool.and_eq_true, decide_eq_true_eq] at h
  exact ⟨squares_sides (by omega), h.2⟩
theorem seqOk_iff {lvl bits : Int} {c r : List Int} : seqOk lvl bits c r = true ↔ (1 ≤ squares c r ∧ squares c r ≤ levelSq lvl) ∧ 3 ≤ bits ∧ bits ≤ 8 := by
  simp only [seqOk, Bool.and_eq_true, decide_eq_true_eq]
theorem tiles_fit {c r : List Int} (h : sidesOk c ∧ sidesOk r) : 0 ≤ ((c.map (V.i .i64)).length : Int) * ((r.map (V.i .i64)).length : Int) ∧ ((c.map (V.i .i64)).length : Int) * ((r.map (V.i .i64)).length : Int) ≤ 4 * 4 := by
  have a1 := h.1.1
  have a2 := h.2.1
  rw [List.length_map, List.length_map]
  exact mul_fit (by omega) (by omega)
def tilesOf (lvl bits : Int) (c r : List Int) : Int := if seqOk lvl bits c r = true then (c.length : Int) * (r.length : Int) else 0
structure Par where
  qp : Int
  large : Bool
  exact : Bool
  confined : Bool
  deriving DecidableEq
def parV (p : Par) : V := .ag [.i .i64 p.qp, .b p.large, .b p.exact, .b p.confined]
def parOk (p : Par) : Prop := (0 ≤ p.qp ∧ p.qp ≤ 40) ∧ ¬ (p.large = true ∧ p.exact = true)
instance (p : Par) : Decidable (parOk p) := by unfold parOk; infer_instance
def rateOk (q t : Int) : Prop := (0 ≤ q ∧ q ≤ 40) ∧ 1 ≤ t ∧ t ≤ 100000
instance (q t : Int) : Decidable (rateOk q t) := by unfold rateOk; infer_instance
/-- A new source's cells. -/
def srcR (lvl bits w h : Int) (p : Par) (rq rt ev re : Int) (c r : V) : List V :=
  [.i .i64 lvl, .i .i64 bits, c, r, .i .i64 p.qp, .b p.large, .b p.exact, .b p.confined, .i .i64 rq, .i .i64 rt, .i .i64 0, .i .i64 0, .i .i64 0, .i .i64 ev, .i .i64 re, .b false, .i .i64 0, .i .i64 0, .s []]
def sourceOk (lvl bits w h : Int) (p : Par) (rq rt ev re : Int) : Prop :=
  tilesOf lvl bits [w] [h] = 1 ∧ parOk p ∧ rateOk rq rt ∧ (1 ≤ ev ∧ ev ≤ 1000) ∧ (0 ≤ re ∧ re ≤ 4)
instance (lvl bits w h : Int) (p : Par) (rq rt ev re : Int) : Decidable (sourceOk lvl bits w h p rq rt ev re) := by unfold sourceOk; infer_instance
theorem tiles1 {lvl bits : Int} {c r : List Int} (h : tilesOf lvl bits c r = 1) : 3 ≤ bits ∧ bits ≤ 8 := by
  unfold tilesOf at h
  split at h
  · rename_i hq; exact (seqOk_sides hq).2
  · omega

end Go.Proofs.Ytafipjhalboefaa

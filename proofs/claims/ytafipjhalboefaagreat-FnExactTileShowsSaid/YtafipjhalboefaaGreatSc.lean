/- Numbers as text, and what is told of a tile. No condition. -/
import Derived.Test.YtafipjhalboefaaGreatSa
namespace Go.Proofs.YtafipjhalboefaaGreat
open Go Go.Vx
set_option linter.unusedVariables false
set_option linter.unusedSimpArgs false
set_option maxHeartbeats 600000
set_option maxRecDepth 100000

/-- The figures of a number, ahead of what is there. -/
def digitsN (n : Nat) (out : List UInt8) : List UInt8 := if h : n = 0 then out else digitsN (n / 10) (UInt8.ofNat (48 + n % 10) :: out)
termination_by n
decreasing_by omega

def decimal (n : Int) : List UInt8 := if n = 0 then [48] else if n < 0 then 45 :: digitsN n.natAbs [] else digitsN n.natAbs []

theorem pow_lt {k L : Nat} (h : 0 < k) (hk : k * 10 ^ L ≤ 9223372036854775808) : L ≤ 18 := by
  refine Classical.byContradiction fun hn => ?_
  have h1 : 10 ^ 19 ≤ 10 ^ L := Nat.pow_le_pow_right (by omega) (by omega)
  have h2 : 1 * 10 ^ L ≤ k * 10 ^ L := Nat.mul_le_mul_right _ h
  omega

theorem pow_next {k L N : Nat} (hk : k * 10 ^ L ≤ N) : k / 10 * 10 ^ (L + 1) ≤ N := by
  have : k / 10 * 10 ≤ k := Nat.div_mul_le_self k 10
  have h2 := Nat.mul_le_mul_right (10 ^ L) this
  rw [Nat.pow_succ]
  exact calc k / 10 * (10 ^ L * 10) = k / 10 * 10 * 10 ^ L := by rw [Nat.mul_assoc, Nat.mul_comm 10]
    _ ≤ _ := h2
    _ ≤ N := hk

theorem digitsN_step {k : Nat} (h : ¬ k = 0) (out : List UInt8) : digitsN k out = digitsN (k / 10) (UInt8.ofNat (48 + k % 10) :: out) := by
  rw [digitsN]; simp [h]
/-- What the loop keeps: the figures to come and those that are there make up the number. -/
structure DecI (n : Int) (s : Nat × List UInt8) : Prop where
  same : digitsN s.1 s.2 = digitsN n.natAbs []
  fit : s.1 * 10 ^ s.2.length ≤ n.natAbs
  len : s.2.length ≤ 19
  le : s.1 ≤ n.natAbs

theorem DecI.next {n : Int} {s : Nat × List UInt8} (h : DecI n s) (hn : n.natAbs ≤ 9223372036854775808) (h0 : ¬ s.1 = 0) : DecI n (s.1 / 10, UInt8.ofNat (48 + s.1 % 10) :: s.2) := by
  have h1 := h.fit
  have h2 := pow_lt (by omega) (Nat.le_trans h1 hn)
  exact ⟨by rw [← digitsN_step h0]; exact h.same, pow_next h1, by simp; omega, by have := h.le; simp; omega⟩

theorem _root_.Go.Vx.Byt.one {b : UInt8} {κ : List UInt8 → Prop} (g : κ [b]) : Byt [.i .u8 ((b.toNat : Nat) : Int)] κ := .mk [b] (allB_byteV [b]) g

structure Tell where
  what : Int
  who : Int
  count : Int
def I64 (n : Int) : Prop := -9223372036854775808 ≤ n ∧ n ≤ 9223372036854775807
def Tell.ok (t : Tell) : Prop := I64 t.what ∧ I64 t.who ∧ I64 t.count
def tellV (t : Tell) : V := .ag [.i .i64 t.what, .i .i64 t.who, .i .i64 t.count]
end Go.Proofs.YtafipjhalboefaaGreat

/- What a packed byte is, bit by bit. No condition. -/
import Derived.Test.YtfcjjkfjdecakaaTp
namespace Go.Proofs.Ytfcjjkfjdecakaa
open Go Go.Vx
set_option linter.unusedVariables false
set_option linter.unusedSimpArgs false
set_option maxHeartbeats 600000
set_option maxRecDepth 100000

theorem or_bit : ∀ r : Fin 8, ∀ v : Fin 128, v.val < 2 ^ r.val → orI ((v.val * 2 ^ (8 - r.val) : Nat) : Int) (bitI (r.val : Int)) = ((v.val * 2 ^ (8 - r.val) + 2 ^ (7 - r.val) : Nat) : Int) := by decide +kernel
theorem or_bit' {r v : Nat} (hr : r < 8) (hv : v < 2 ^ r) : orI ((v * 2 ^ (8 - r) : Nat) : Int) (bitI (r : Int)) = ((v * 2 ^ (8 - r) + 2 ^ (7 - r) : Nat) : Int) := by
  have h128 : v < 128 := Nat.lt_of_lt_of_le hv (by
    have : 2 ^ r ≤ 2 ^ 7 := Nat.pow_le_pow_right (by omega) (by omega)
    omega)
  exact or_bit ⟨r, hr⟩ ⟨v, h128⟩ hv

/-- The first k bits of byte j, as a number. -/
def bitN (t : List UInt8) (i : Nat) : Nat := if i < t.length then (rb t i).toNat - 48 else if i = t.length then 1 else 0
def val8 (t : List UInt8) (j : Nat) : Nat → Nat
  | 0 => 0
  | k + 1 => 2 * val8 t j k + bitN t (8 * j + k)
theorem bitN_le {t : List UInt8} (h : allSigns t) (i : Nat) : bitN t i ≤ 1 := by
  unfold bitN
  split
  · have := h i (by assumption)
    unfold signAt at this
    omega
  · split <;> omega
theorem val8_lt {t : List UInt8} (h : allSigns t) (j : Nat) : ∀ k, val8 t j k < 2 ^ k
  | 0 => by simp [val8]
  | k + 1 => by
    have h1 := val8_lt h j k
    have h2 := bitN_le h (8 * j + k)
    simp only [val8]
    rw [Nat.pow_succ]
    omega

theorem rb_orAt (l : List UInt8) (i j : Nat) (hj : j < l.length) : rb (orAt l i) j = if i / 8 = j then orB (rb l j) i else rb l j := by
  unfold orAt rb
  rw [List.getD_eq_getElem?_getD, List.getElem?_set]
  by_cases h : i / 8 = j
  · subst h; simp [hj]
  · simp [h]
theorem orB_nat {x : UInt8} {i r v : Nat} (hi : i % 8 = r) (hv : v < 2 ^ r) (hx : x.toNat = v * 2 ^ (8 - r)) : (orB x i).toNat = v * 2 ^ (8 - r) + 2 ^ (7 - r) := by
  have hr : r < 8 := by omega
  have h1 := or_bit' hr hv
  have h2 : ((i : Int) % 8) = (r : Int) := by omega
  have h3 := orI_fit x.toNat (bitI ((i : Int) % 8))
  unfold orB
  rw [h2, hx, h1] at *
  rw [UInt8.toNat_ofNat']
  omega
theorem pow_half {k : Nat} (h : k < 8) : 2 ^ (8 - k) = 2 * 2 ^ (7 - k) := by
  rw [show 8 - k = (7 - k) + 1 by omega, Nat.pow_succ, Nat.mul_comm]
theorem pk_byte {t : List UInt8} (h : allSigns t) : ∀ (i : Nat), i ≤ t.length → ∀ j, j < t.length / 8 + 1 → (rb (pk t i) j).toNat = val8 t j (min (i - 8 * j) 8) * 2 ^ (8 - min (i - 8 * j) 8)
  | 0, _, j, hj => by
    have : rb (pk t 0) j = 0 := by simp [rb, pk, hj]
    rw [this]; simp [val8]
  | i + 1, hi, j, hj => by
    have ih := pk_byte h i (by omega) j hj
    have hb : bitN t i = (rb t i).toNat - 48 := by unfold bitN; rw [if_pos (by omega)]
    have hs := h i (by omega)
    unfold signAt at hs
    by_cases hij : i / 8 = j
    · have hk : min (i - 8 * j) 8 = i % 8 := by omega
      have hk2 : min (i + 1 - 8 * j) 8 = i % 8 + 1 := by omega
      rw [hk] at ih
      rw [hk2, val8, show 8 * j + i % 8 = i by omega, show 8 - (i % 8 + 1) = 7 - i % 8 by omega]
      have hp := pow_half (k := i % 8) (by omega)
      by_cases h9 : (rb t i).toNat = 49
      · rw [show pk t (i + 1) = orAt (pk t i) i by simp only [pk]; rw [if_pos h9], rb_orAt _ _ _ (by rw [pk_len]; exact hj), if_pos hij, orB_nat rfl (val8_lt h j _) ih, hb, h9, hp]
        rw [Nat.add_mul, Nat.mul_assoc, ← Nat.mul_assoc (val8 t j (i % 8)) 2, Nat.mul_comm (val8 t j (i % 8)) 2, Nat.mul_assoc]
        simp
      · rw [show pk t (i + 1) = pk t i by simp only [pk]; rw [if_neg h9], ih, hb, show (rb t i).toNat - 48 = 0 by omega, hp]
        rw [Nat.add_zero, Nat.mul_comm 2 (val8 t j (i % 8)), Nat.mul_assoc]
    · have hk : min (i + 1 - 8 * j) 8 = min (i - 8 * j) 8 := by omega
      rw [hk, ← ih]
      by_cases h9 : (rb t i).toNat = 49
      · rw [show pk t (i + 1) = orAt (pk t i) i by simp only [pk]; rw [if_pos h9], rb_orAt _ _ _ (by rw [pk_len]; exact hj), if_neg hij]
      · rw [show pk t (i + 1) = pk t i by simp only [pk]; rw [if_neg h9]]

theorem val8_zero {t : List UInt8} {j k : Nat} (h : ∀ m, k ≤ m → bitN t (8 * j + m) = 0) : ∀ m, val8 t j (k + m) = val8 t j k * 2 ^ m
  | 0 => by simp
  | m + 1 => by
    rw [← Nat.add_assoc, val8, val8_zero h m, h (k + m) (by omega), Nat.pow_succ, Nat.add_zero, Nat.mul_comm 2, Nat.mul_assoc]
/-- Each byte of a packed row is its eight bits. -/
theorem packS_byte {t : List UInt8} (h : allSigns t) (j : Nat) (hj : j < t.length / 8 + 1) : (rb (packS t) j).toNat = val8 t j 8 := by
  have ih := pk_byte h t.length (Nat.le_refl _) j hj
  unfold packS
  rw [rb_orAt _ _ _ (by rw [pk_len]; exact hj)]
  by_cases hij : t.length / 8 = j
  · have hk : min (t.length - 8 * j) 8 = t.length % 8 := by omega
    rw [hk] at ih
    rw [if_pos hij, orB_nat rfl (val8_lt h j _) ih]
    have hp := pow_half (k := t.length % 8) (by omega)
    have hz := val8_zero (t := t) (j := j) (k := t.length % 8 + 1) (fun m hm => by unfold bitN; rw [if_neg (by omega), if_neg (by omega)]) (7 - t.length % 8)
    rw [show t.length % 8 + 1 + (7 - t.length % 8) = 8 by omega] at hz
    have hb : bitN t (8 * j + t.length % 8) = 1 := by unfold bitN; rw [if_neg (by omega), if_pos (by omega)]
    rw [hz, val8, hb, hp, Nat.add_mul, ← Nat.mul_assoc, Nat.mul_comm (val8 t j (t.length % 8)) 2]
    simp
  · rw [if_neg hij, ih, show min (t.length - 8 * j) 8 = 8 by omega]
    simp
end Go.Proofs.Ytfcjjkfjdecakaa

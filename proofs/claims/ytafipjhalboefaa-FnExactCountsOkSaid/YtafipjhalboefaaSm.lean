/- Numbers read from text. No condition. -/
import Derived.Test.YtafipjhalboefaaSc
namespace Go.Proofs.Ytafipjhalboefaa
open Go Go.Vx
set_option linter.unusedVariables false
set_option linter.unusedSimpArgs false
set_option maxHeartbeats 600000
set_option maxRecDepth 100000

def rb (t : List UInt8) (i : Nat) : UInt8 := t.getD i 0
theorem _root_.Go.Vx.Chr.at {l : List UInt8} {i : Nat} {κ : UInt8 → Prop} (h : i < l.length) (g : κ (rb l i)) : Chr l (i : Int) κ :=
  .mk (rb l i) (by omega) (by rw [Int.toNat_natCast]; simp [rb, h]) g
def digitAt (t : List UInt8) (j : Nat) : Prop := 48 ≤ (rb t j).toNat ∧ (rb t j).toNat ≤ 57
instance (t : List UInt8) (j : Nat) : Decidable (digitAt t j) := by unfold digitAt; infer_instance
def valTo (t : List UInt8) : Nat → Int
  | 0 => 0
  | i + 1 => 10 * valTo t i + ((rb t i).toNat - 48)
def nines : Nat → Int
  | 0 => 0
  | i + 1 => 10 * nines i + 9
theorem nines_mono : ∀ (i d : Nat), 0 ≤ nines i ∧ nines i ≤ nines (i + d)
  | i, 0 => by
    have : 0 ≤ nines i := by induction i with
      | zero => simp [nines]
      | succ i ih => simp only [nines]; omega
    exact ⟨this, Int.le_refl _⟩
  | i, d + 1 => by
    have h := nines_mono i d
    refine ⟨h.1, ?_⟩
    show nines i ≤ 10 * nines (i + d) + 9
    omega
theorem valTo_fit {t : List UInt8} : ∀ (i : Nat), (∀ j, j < i → digitAt t j) → 0 ≤ valTo t i ∧ valTo t i ≤ nines i
  | 0, _ => by simp [valTo, nines]
  | i + 1, h => by
    have h1 := valTo_fit i (fun j hj => h j (by omega))
    have h2 := h i (by omega)
    unfold digitAt at h2
    simp only [valTo, nines]
    omega
theorem valTo_le {t : List UInt8} {i : Nat} (hi : i ≤ 10) (h : ∀ j, j < i → digitAt t j) : 0 ≤ valTo t i ∧ valTo t i ≤ 9999999999 ∧ (i ≤ 9 → valTo t i ≤ 999999999) := by
  have h1 := valTo_fit i h
  have h2 := (nines_mono i (10 - i)).2
  rw [show i + (10 - i) = 10 by omega] at h2
  have h3 : nines 10 = 9999999999 := by decide
  refine ⟨h1.1, by omega, fun hk => ?_⟩
  have h4 := (nines_mono i (9 - i)).2
  rw [show i + (9 - i) = 9 by omega] at h4
  have h5 : nines 9 = 999999999 := by decide
  omega

def readOk (t : List UInt8) : Prop := (1 ≤ t.length ∧ t.length ≤ 10) ∧ (∀ j, j < t.length → digitAt t j) ∧ valTo t t.length ≤ 1000000000 ∧ decimal (valTo t t.length) = t
instance (t : List UInt8) : Decidable (readOk t) := by unfold readOk; infer_instance
def readDec (t : List UInt8) : Int × Bool := if readOk t then (valTo t t.length, true) else (0, false)
theorem readDec_no {t : List UInt8} (h : ¬ readOk t) : readDec t = (0, false) := by rw [readDec, if_neg h]
theorem readDec_yes {t : List UInt8} (h : readOk t) : readDec t = (valTo t t.length, true) := by rw [readDec, if_pos h]

theorem readDec_dig {t : List UInt8} {i : Nat} (hi : i < t.length) (h : ¬ digitAt t i) : readDec t = (0, false) := readDec_no (fun k => h (k.2.1 i hi))
theorem dig_next {t : List UInt8} {i : Nat} (h : ∀ j, j < i → digitAt t j) (hi : digitAt t i) : ∀ j, j < i + 1 → digitAt t j := fun j hj => by
  rcases Nat.lt_or_eq_of_le (Nat.le_of_lt_succ hj) with h1 | h1
  · exact h j h1
  · subst h1; exact hi

theorem digitsN_ge : ∀ (n : Nat) (out : List UInt8), out.length ≤ (digitsN n out).length := by
  intro n
  induction n using Nat.strongRecOn with
  | _ n ih =>
    intro out
    by_cases h : n = 0
    · subst h; rw [digitsN_zero]; omega
    · rw [digitsN_step h]
      have := ih (n / 10) (by omega) (UInt8.ofNat (48 + n % 10) :: out)
      rw [List.length_cons] at this
      omega
theorem decimal_ne (n : Int) : decimal n ≠ [] := by
  unfold decimal
  split
  · simp
  · split
    · simp
    · intro k
      rw [digitsN_step (by omega)] at k
      have := digitsN_ge (n.natAbs / 10) [UInt8.ofNat (48 + n.natAbs % 10)]
      rw [k] at this
      simp at this
end Go.Proofs.Ytafipjhalboefaa
